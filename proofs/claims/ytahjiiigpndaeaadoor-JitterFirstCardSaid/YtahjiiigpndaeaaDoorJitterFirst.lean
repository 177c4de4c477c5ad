/-
  JitterFirst: the jitters of an occurrence are those of its attempts, one after the other; fewer of them are the beginning; the smallest one is the first of those with its value, and the sum is that of all.
  Conditions: none beyond the row's own (the table of package mix as the program's text lays it).
-/
import Derived.Test.YtahjiiigpndaeaaDoorTieM
import Derived.Test.YtahjiiigpndaeaaDoorJtN
set_option linter.unusedVariables false
set_option linter.unusedSimpArgs false
namespace Go.Proofs.YtahjiiigpndaeaaDoor.lawJitterFirst
open Go.ChangeShapes Go.WideShapes Go.ChangeAt Go.RowKit

theorem nm_jnE (j d : Int) (m : Nat) (L : Int) (hd : 0 ≤ d ∧ d ≤ 253402300799) (hm : m ≤ 21) (hL : 0 ≤ L ∧ L ≤ 68719476736) : jnE (nmJ j) d m L = 0 := by
  unfold jnE jcE
  rw [if_pos (nmJ_ok j), if_pos hd, if_pos]
  refine ⟨by simp; omega, by omega, by omega⟩
theorem nm_jwE (j t k L : Int) (ht : 0 ≤ t ∧ t ≤ 253402300799) (hk : 1 ≤ k ∧ k ≤ 21) (hL : 0 ≤ L ∧ L ≤ 68719476736) : jwE (nmJ j) t k L = 0 := by
  unfold jwE jcE
  rw [if_pos (nmJ_ok j), if_pos ht, if_pos]
  refine ⟨by simp; omega, by omega, by omega⟩
theorem nm_jwV (a j d : Int) (k : Nat) (L : Int) (ht : 0 ≤ d ∧ d ≤ 253402300799) (hk : k < 21) (hL : 0 ≤ L ∧ L ≤ 68719476736) : jwV a (nmJ j) d ((k : Int) + 1) L = lstF a (nmJ j) d L k := if_pos (nm_jwE j d _ L ht (by omega) hL)
theorem sumJ_range2 (a : Int) (s : ByteArray) (d L : Int) (k : Nat) : sumJ a s d L (List.range (k + 1)) = sumJ a s d L (List.range k) + lstF a s d L k := sumJ_range a s d L k
/-- the law's own smallest value: the longest length and one more, where there is none yet -/
def lsV (f : Nat → Int) (k : Nat) : Int := if k = 0 then 68719476737 else (ltF f (List.range k)).2
theorem ls_step (f : Nat → Int) (k : Nat) (hf : f k ≤ 68719476736) : (f k < lsV f k → (ltF f (List.range (k + 1))).1 = (k : Int) + 1 ∧ lsV f (k + 1) = f k) ∧ (¬ f k < lsV f k → (ltF f (List.range (k + 1))).1 = (ltF f (List.range k)).1 ∧ lsV f (k + 1) = lsV f k) := by
  have hs := ltF_snoc f (List.range k) k
  rw [← List.range_succ] at hs
  have hz := ltF_fst f k
  by_cases h0 : k = 0
  · subst h0
    rw [if_pos (.inl (hz.2 rfl))] at hs
    constructor
    · intro _
      rw [hs]
      exact ⟨rfl, by unfold lsV; rw [if_neg (by omega), hs]⟩
    · intro h
      exact absurd (show f 0 < lsV f 0 by unfold lsV; rw [if_pos rfl]; omega) h
  · have hl : lsV f k = (ltF f (List.range k)).2 := if_neg h0
    have hn : ¬ (ltF f (List.range k)).1 = 0 := fun h => h0 (hz.1 h)
    have hl2 : lsV f (k + 1) = (ltF f (List.range (k + 1))).2 := if_neg (by omega)
    rw [hl, hl2]
    constructor
    · intro h
      rw [if_pos (.inr h)] at hs
      rw [hs]
      exact ⟨rfl, rfl⟩
    · intro h
      rw [if_neg (not_or.2 ⟨hn, h⟩)] at hs
      rw [hs]
      exact ⟨rfl, rfl⟩
theorem ltF_bd (f : Nat → Int) (k : Nat) : (ltF f (List.range k)).1 ≤ k := by
  induction k with
  | zero => simp [ltF]
  | succ k ih =>
    rw [List.range_succ, ltF_snoc]
    split
    · simp
    · omega
set_option maxRecDepth 20000 in
set_option maxHeartbeats 8000000 in
theorem walk (w : World) (a : Int) (a0 : 0 ≤ a) (a1 : a ≤ 18446744073709551615) (j : Int) (j0 : 0 ≤ j) (j1 : j ≤ 65535) (d : Int) (d0 : 0 ≤ d) (d1 : d ≤ 4294967295) (c : Int) (c0 : 0 ≤ c) (c1 : c ≤ 255) (q : Int) (q0 : 0 ≤ q) (q1 : q ≤ 255) (l : Int) (l0 : 0 ≤ l) (l1 : l ≤ 18446744073709551615) (ht : Tab w) :
    Calls Tryd.prog 12 #[.int .u64 a, .int .u16 j, .int .u32 d, .int .u8 c, .int .u8 q, .int .u64 l] w fun e w' => e = .returned (.bool true) ∧ G w w' := by
  have HT := Lib.hid ht
  have hu : u64 a := ⟨a0, by omega⟩
  clear ht
  obtain ⟨m, hmm⟩ : ∃ m : Nat, c % 22 = m := ⟨(c % 22).toNat, by omega⟩
  obtain ⟨L, hLL⟩ : ∃ L, l % 68719476737 = L := ⟨_, rfl⟩
  have m1 : m ≤ 21 := by omega
  have L0 : 0 ≤ L := by omega
  have L1 : L ≤ 68719476736 := by omega
  obtain ⟨p, hp⟩ : ∃ p : Nat, q % ((m : Int) + 1) = p := ⟨(q % ((m : Int) + 1)).toNat, by have := Int.emod_nonneg q (show (m : Int) + 1 ≠ 0 by omega); omega⟩
  have p1 : p ≤ m := by have := Int.emod_lt_of_pos q (show (0 : Int) < (m : Int) + 1 by omega); omega
  have hd : 0 ≤ d ∧ d ≤ 253402300799 := ⟨d0, by omega⟩
  have hL : 0 ≤ L ∧ L ≤ 68719476736 := ⟨L0, L1⟩
  have HE1 := Lib.hid (nm_jnE j d m L hd m1 hL)
  have HE2 := Lib.hid (nm_jnE j d p L hd (by omega) hL)
  have HN1 : Hid (jnN (nmJ j) d m L = m) := Lib.hid (by rw [jnN_ok HE1.out, Int.toNat_natCast])
  have HN2 : Hid (jnN (nmJ j) d p L = p) := Lib.hid (by rw [jnN_ok HE2.out, Int.toNat_natCast])
  have HW : Hid (∀ k : Nat, k < m → jwE (nmJ j) d ((k : Int) + 1) L = 0 ∧ jwV a (nmJ j) d ((k : Int) + 1) L = lstF a (nmJ j) d L k ∧ (0 ≤ lstF a (nmJ j) d L k ∧ lstF a (nmJ j) d L k < max L 1)) := Lib.hid (fun k hk =>
    ⟨nm_jwE j d _ L hd (by omega) hL, nm_jwV a j d k L hd (by omega) hL, jw_bd a (nmJ j) d _ L L0⟩)
  have HLT : Hid (ltE (nmJ j) d m L = if m = 0 then 5 else 0) := Lib.hid (by
    unfold ltE
    rw [HE1.out]
    by_cases h : m = 0
    · rw [if_pos h, if_pos ⟨rfl, by omega⟩]
    · rw [if_neg h, if_neg (fun h2 => h (by omega))])
  clear hd hL
  obtain ⟨s, hs⟩ : ∃ s, nmJ j = s := ⟨_, rfl⟩
  have HNs := Lib.hid hs
  rw [hs] at HE1 HE2 HN1 HN2 HW HLT
  clear hs
  have HSB := Lib.hid (sumJ_bd a s d L L0 L1)
  have HSR := Lib.hid (sumJ_range2 a s d L)
  have HLS := Lib.hid (fun k h => ls_step (lstF a s d L) k h)
  have HLB := Lib.hid (fun k => ltF_bd (lstF a s d L) k)
  have HLP := Lib.hid (fun k => ltF_pos (lstF a s d L) (List.range k))
  go_enter Tryd.func12, Tryd.ntmps12
  go_wp2_with fail
  go_at_call 24
  refine (named_any j j0 j1 _).mono ?_
  rintro e w1 ⟨rfl, g1⟩
  rw [HNs.out]
  go_wp2_with fail
  try rw [hmm]
  try rw [hLL]
  clear hmm hLL
  go_at_call 15
  refine (jlist_any a s d m L hu (by omega) (by omega) _ (HT.out.g g1)).mono ?_
  rintro e w2 ⟨v2, rfl, r2, g2⟩
  rw [HE1.out]
  rw [HN1.out] at r2
  have gA := g1.trans g2
  clear g1 g2
  have R2 := Lib.hid r2
  obtain ⟨A1, q2, rfl, hq2, hm1, hr1⟩ := r2
  simp only [vI_len, jL_len] at hq2 hr1 ⊢
  have H1 : Hid (∀ k, k < m → ∃ b o, A1 = some ⟨b, o, none⟩ ∧ w2.cell? ⟨b, o + k, none⟩ = some (.int .i64 (lstF a s d L k))) := Lib.hid (fun k hk => by
    obtain ⟨b, o, e, h⟩ := hr1 (by omega)
    exact ⟨b, o, e, h k _ (jL_get a s d L hk)⟩)
  clear hr1 R2
  go_wp2_with fail
  rcases (show L ≤ 0 ∨ 1 ≤ L by omega) with hLz | hLp
  · go_loopw [18, 19, 20, 63] (fun sv lv av kv wr => ∃ k : Nat, k ≤ m ∧ kv = .int .i64 k ∧ sv = .int .i64 (sumJ a s d L (List.range k)) ∧ lv = .int .i64 (lsV (lstF a s d L) k) ∧ av = .int .i64 (ltF (lstF a s d L) (List.range k)).1 ∧ G w2 wr) (fun _ _ _ kv _ => m - (intOf kv).toNat)
    case atStart => exact ⟨0, by omega, rfl, rfl, rfl, rfl, G.refl _⟩
    case round =>
      obtain ⟨k, hk, rfl, rfl, rfl, rfl, hg⟩ := hrel
      by_cases hlt : k < m
      · have hkm : (k : Int) < m := by omega
        obtain ⟨b, o, rfl, hc⟩ := H1.out k hlt
        have e0 := hg.cell (World.block_lt_of_cell? w2 _ hc) hc
        obtain ⟨hE1, hV1, hb0, hb1⟩ := HW.out k hlt
        have HE3 := Lib.hid hE1
        have HV3 := Lib.hid hV1
        have hb2 : lstF a s d L k ≤ 68719476736 := by omega
        have HS3 := Lib.hid (HLS.out k hb2)
        have HSR3 := Lib.hid (HSR.out k)
        have hsb := HSB.out (List.range k)
        rw [List.length_range] at hsb
        obtain ⟨hsb0, hsb1⟩ := hsb
        have hMX : max L 1 = 1 := by omega
        rw [hMX] at hb1
        clear hc hE1 hV1 hMX
        generalize lstF a s d L k = x at *
        generalize sumJ a s d L (List.range k) = S at *
        generalize lsV (lstF a s d L) k = V at *
        generalize (ltF (lstF a s d L) (List.range k)).1 = T at *
        have hw : IntKind.i64.wrap (S + x) = S + x := by rw [IntKind.wrap_i64]; omega
        go_wp2_with fail
        go_at_call 14
        refine (wait_any a s d ((k : Int) + 1) L hu (by omega) (by omega) _ (HT.out.g (gA.trans hg))).mono ?_
        rintro e w3 ⟨rfl, g3⟩
        rw [HE3.out, HV3.out]
        have gB := hg.trans g3
        clear g3
        by_cases hxv : x < V
        · obtain ⟨h3, h4⟩ := HS3.out.1 hxv
          have H3 := Lib.hid h3
          have H4 := Lib.hid h4
          clear h3 h4
          go_wp2_with fail
          go_roundw
          case rel => exact ⟨k + 1, by omega, by go_num, by rw [HSR3.out], by rw [H4.out], by rw [H3.out], gB⟩
          case measure => simp [intOf]; omega
        · obtain ⟨h3, h4⟩ := HS3.out.2 (by omega)
          have H3 := Lib.hid h3
          have H4 := Lib.hid h4
          clear h3 h4
          go_wp2_with fail
          go_roundw
          case rel => exact ⟨k + 1, by omega, by go_num, by rw [HSR3.out], by rw [H4.out], by rw [H3.out], gB⟩
          case measure => simp [intOf]; omega
      · obtain rfl : k = m := by omega
        obtain ⟨wo, rfl⟩ : ∃ wo : World, wo = wr := ⟨_, rfl⟩
        replace gA := gA.trans hg
        have H1o : Hid (∀ i, i < k → ∃ b o, A1 = some ⟨b, o, none⟩ ∧ wo.cell? ⟨b, o + i, none⟩ = some (.int .i64 (lstF a s d L i))) := Lib.hid (fun i hi => by
          obtain ⟨b, o, e, h⟩ := H1.out i hi
          exact ⟨b, o, e, hg.cell (World.block_lt_of_cell? w2 _ h) h⟩)
        have HFin : Hid ((k ≠ 0 → lsV (lstF a s d L) k = (ltF (lstF a s d L) (List.range k)).2) ∧ (k = 0 → ltF (lstF a s d L) (List.range k) = (0, 0))) := Lib.hid ⟨fun h => if_neg h, fun h => by subst h; rfl⟩
        obtain ⟨sm, hsm⟩ : ∃ x, sumJ a s d L (List.range k) = x := ⟨_, rfl⟩
        obtain ⟨lv, hlv⟩ : ∃ x, lsV (lstF a s d L) k = x := ⟨_, rfl⟩
        obtain ⟨t1, ht1⟩ : ∃ x, (ltF (lstF a s d L) (List.range k)).1 = x := ⟨_, rfl⟩
        have HSM := Lib.hid hsm
        have HT1 := Lib.hid ht1
        rw [hlv] at HFin
        rw [hsm, hlv, ht1]
        clear hsm hlv ht1 H1 hg
        go_wp2_with fail
        try rw [hp]
        clear hp
        go_at_call 15
        refine (jlist_any a s d p L hu (by omega) (by omega) _ (HT.out.g gA)).mono ?_
        rintro e w3 ⟨v3, rfl, r3, g3⟩
        rw [HE2.out]
        rw [HN2.out] at r3
        obtain ⟨A2, q3, rfl, hq3, hm3, hr3⟩ := r3
        simp only [vI_len, jL_len] at hq3 hr3 ⊢
        go_wp2_with fail
        go_at_call 16
        refine (jtotal_any a s d k L hu (by omega) (by omega) _ (HT.out.g (gA.trans g3))).mono ?_
        rintro e w4 ⟨rfl, g4⟩
        rw [HE1.out, HN1.out, HSM.out]
        have H2 : Hid (∀ i, i < p → ∃ b o, A2 = some ⟨b, o, none⟩ ∧ w4.cell? ⟨b, o + i, none⟩ = some (.int .i64 (lstF a s d L i))) := Lib.hid (fun i hi => by
          obtain ⟨b, o, e, h⟩ := hr3 (by omega)
          have h2 := h i _ (jL_get a s d L hi)
          exact ⟨b, o, e, g4.cell (World.block_lt_of_cell? w3 _ h2) h2⟩)
        have H1q : Hid (∀ i, i < k → ∃ b o, A1 = some ⟨b, o, none⟩ ∧ w4.cell? ⟨b, o + i, none⟩ = some (.int .i64 (lstF a s d L i))) := Lib.hid (fun i hi => by
          obtain ⟨b, o, e, h⟩ := H1o.out i hi
          have h2 := g3.cell (World.block_lt_of_cell? wo _ h) h
          exact ⟨b, o, e, g4.cell (World.block_lt_of_cell? w3 _ h2) h2⟩)
        replace gA := (gA.trans g3).trans g4
        clear hr3 H1o g3 g4
        go_wp2_with fail
        go_loopw [150] (fun kv wr => ∃ i : Nat, i ≤ p ∧ kv = .int .i64 i ∧ G w4 wr) (fun kv _ => p - (intOf kv).toNat)
        case atStart => exact ⟨0, by omega, rfl, G.refl _⟩
        case round =>
          obtain ⟨i, hi, rfl, hg⟩ := hrel
          by_cases hlt2 : i < p
          · have hip : (i : Int) < p := by omega
            have hik : (i : Int) < k := by omega
            obtain ⟨b, o, rfl, hc⟩ := H2.out i hlt2
            obtain ⟨b2, o2, rfl, hc2⟩ := H1q.out i (by omega)
            have e0 := hg.cell (World.block_lt_of_cell? w4 _ hc) hc
            have e1 := hg.cell (World.block_lt_of_cell? w4 _ hc2) hc2
            clear hc hc2
            generalize lstF a s d L i = x at *
            go_wp2_with fail
            go_roundw
            case rel => exact ⟨i + 1, by omega, by go_num, (by repeat (first | exact G.refl _ | refine G.alloc ?_ _ | refine G.drewN ?_ _ | refine G.drew ?_ | refine G.trans ?_ (by assumption)))⟩
            case measure => simp [intOf]; omega
          · obtain rfl : i = p := by omega
            have gB := gA.trans hg
            clear gA hg H2 H1q
            go_wp2_with fail
            go_at_call 29
            refine (jleast_any a s d k L hu (by omega) (by omega) _ (HT.out.g gB)).mono ?_
            rintro e w5 ⟨rfl, g5⟩
            rw [HN1.out, HLT.out]
            have gC := gB.trans g5
            clear gB g5
            by_cases hkz : k = 0
            · have h00 := HFin.out.2 hkz
              rw [h00, if_pos hkz]
              have hkz2 : ((k : Int) == 0) = true := by simp; omega
              clear h00 hkz
              go_wp2_with fail
              go_at_call 19
              refine (works_any _ (HT.out.g gC)).mono ?_
              rintro e w8 ⟨rfl, g8⟩
              have gE := gC.trans g8
              go_wp2_with fail
              go_ret
              exact ⟨rfl, gE⟩
            · have h00 := HFin.out.1 hkz
              rw [← h00, HT1.out, if_neg hkz]
              have hkz2 : ((k : Int) == 0) = false := by simp; omega
              clear h00 hkz
              go_wp2_with fail
              go_at_call 19
              refine (works_any _ (HT.out.g gC)).mono ?_
              rintro e w8 ⟨rfl, g8⟩
              have gE := gC.trans g8
              go_wp2_with fail
              go_ret
              exact ⟨rfl, gE⟩
  · go_loopw [18, 19, 20, 63] (fun sv lv av kv wr => ∃ k : Nat, k ≤ m ∧ kv = .int .i64 k ∧ sv = .int .i64 (sumJ a s d L (List.range k)) ∧ lv = .int .i64 (lsV (lstF a s d L) k) ∧ av = .int .i64 (ltF (lstF a s d L) (List.range k)).1 ∧ G w2 wr) (fun _ _ _ kv _ => m - (intOf kv).toNat)
    case atStart => exact ⟨0, by omega, rfl, rfl, rfl, rfl, G.refl _⟩
    case round =>
      obtain ⟨k, hk, rfl, rfl, rfl, rfl, hg⟩ := hrel
      by_cases hlt : k < m
      · have hkm : (k : Int) < m := by omega
        obtain ⟨b, o, rfl, hc⟩ := H1.out k hlt
        have e0 := hg.cell (World.block_lt_of_cell? w2 _ hc) hc
        obtain ⟨hE1, hV1, hb0, hb1⟩ := HW.out k hlt
        have HE3 := Lib.hid hE1
        have HV3 := Lib.hid hV1
        have hb2 : lstF a s d L k ≤ 68719476736 := by omega
        have HS3 := Lib.hid (HLS.out k hb2)
        have HSR3 := Lib.hid (HSR.out k)
        have hsb := HSB.out (List.range k)
        rw [List.length_range] at hsb
        obtain ⟨hsb0, hsb1⟩ := hsb
        have hMX : max L 1 = L := by omega
        rw [hMX] at hb1
        clear hc hE1 hV1 hMX
        generalize lstF a s d L k = x at *
        generalize sumJ a s d L (List.range k) = S at *
        generalize lsV (lstF a s d L) k = V at *
        generalize (ltF (lstF a s d L) (List.range k)).1 = T at *
        have hw : IntKind.i64.wrap (S + x) = S + x := by rw [IntKind.wrap_i64]; omega
        go_wp2_with fail
        go_at_call 14
        refine (wait_any a s d ((k : Int) + 1) L hu (by omega) (by omega) _ (HT.out.g (gA.trans hg))).mono ?_
        rintro e w3 ⟨rfl, g3⟩
        rw [HE3.out, HV3.out]
        have gB := hg.trans g3
        clear g3
        by_cases hxv : x < V
        · obtain ⟨h3, h4⟩ := HS3.out.1 hxv
          have H3 := Lib.hid h3
          have H4 := Lib.hid h4
          clear h3 h4
          go_wp2_with fail
          go_roundw
          case rel => exact ⟨k + 1, by omega, by go_num, by rw [HSR3.out], by rw [H4.out], by rw [H3.out], gB⟩
          case measure => simp [intOf]; omega
        · obtain ⟨h3, h4⟩ := HS3.out.2 (by omega)
          have H3 := Lib.hid h3
          have H4 := Lib.hid h4
          clear h3 h4
          go_wp2_with fail
          go_roundw
          case rel => exact ⟨k + 1, by omega, by go_num, by rw [HSR3.out], by rw [H4.out], by rw [H3.out], gB⟩
          case measure => simp [intOf]; omega
      · obtain rfl : k = m := by omega
        obtain ⟨wo, rfl⟩ : ∃ wo : World, wo = wr := ⟨_, rfl⟩
        replace gA := gA.trans hg
        have H1o : Hid (∀ i, i < k → ∃ b o, A1 = some ⟨b, o, none⟩ ∧ wo.cell? ⟨b, o + i, none⟩ = some (.int .i64 (lstF a s d L i))) := Lib.hid (fun i hi => by
          obtain ⟨b, o, e, h⟩ := H1.out i hi
          exact ⟨b, o, e, hg.cell (World.block_lt_of_cell? w2 _ h) h⟩)
        have HFin : Hid ((k ≠ 0 → lsV (lstF a s d L) k = (ltF (lstF a s d L) (List.range k)).2) ∧ (k = 0 → ltF (lstF a s d L) (List.range k) = (0, 0))) := Lib.hid ⟨fun h => if_neg h, fun h => by subst h; rfl⟩
        obtain ⟨sm, hsm⟩ : ∃ x, sumJ a s d L (List.range k) = x := ⟨_, rfl⟩
        obtain ⟨lv, hlv⟩ : ∃ x, lsV (lstF a s d L) k = x := ⟨_, rfl⟩
        obtain ⟨t1, ht1⟩ : ∃ x, (ltF (lstF a s d L) (List.range k)).1 = x := ⟨_, rfl⟩
        have HSM := Lib.hid hsm
        have HT1 := Lib.hid ht1
        rw [hlv] at HFin
        rw [hsm, hlv, ht1]
        clear hsm hlv ht1 H1 hg
        go_wp2_with fail
        try rw [hp]
        clear hp
        go_at_call 15
        refine (jlist_any a s d p L hu (by omega) (by omega) _ (HT.out.g gA)).mono ?_
        rintro e w3 ⟨v3, rfl, r3, g3⟩
        rw [HE2.out]
        rw [HN2.out] at r3
        obtain ⟨A2, q3, rfl, hq3, hm3, hr3⟩ := r3
        simp only [vI_len, jL_len] at hq3 hr3 ⊢
        go_wp2_with fail
        go_at_call 16
        refine (jtotal_any a s d k L hu (by omega) (by omega) _ (HT.out.g (gA.trans g3))).mono ?_
        rintro e w4 ⟨rfl, g4⟩
        rw [HE1.out, HN1.out, HSM.out]
        have H2 : Hid (∀ i, i < p → ∃ b o, A2 = some ⟨b, o, none⟩ ∧ w4.cell? ⟨b, o + i, none⟩ = some (.int .i64 (lstF a s d L i))) := Lib.hid (fun i hi => by
          obtain ⟨b, o, e, h⟩ := hr3 (by omega)
          have h2 := h i _ (jL_get a s d L hi)
          exact ⟨b, o, e, g4.cell (World.block_lt_of_cell? w3 _ h2) h2⟩)
        have H1q : Hid (∀ i, i < k → ∃ b o, A1 = some ⟨b, o, none⟩ ∧ w4.cell? ⟨b, o + i, none⟩ = some (.int .i64 (lstF a s d L i))) := Lib.hid (fun i hi => by
          obtain ⟨b, o, e, h⟩ := H1o.out i hi
          have h2 := g3.cell (World.block_lt_of_cell? wo _ h) h
          exact ⟨b, o, e, g4.cell (World.block_lt_of_cell? w3 _ h2) h2⟩)
        replace gA := (gA.trans g3).trans g4
        clear hr3 H1o g3 g4
        go_wp2_with fail
        go_loopw [150] (fun kv wr => ∃ i : Nat, i ≤ p ∧ kv = .int .i64 i ∧ G w4 wr) (fun kv _ => p - (intOf kv).toNat)
        case atStart => exact ⟨0, by omega, rfl, G.refl _⟩
        case round =>
          obtain ⟨i, hi, rfl, hg⟩ := hrel
          by_cases hlt2 : i < p
          · have hip : (i : Int) < p := by omega
            have hik : (i : Int) < k := by omega
            obtain ⟨b, o, rfl, hc⟩ := H2.out i hlt2
            obtain ⟨b2, o2, rfl, hc2⟩ := H1q.out i (by omega)
            have e0 := hg.cell (World.block_lt_of_cell? w4 _ hc) hc
            have e1 := hg.cell (World.block_lt_of_cell? w4 _ hc2) hc2
            clear hc hc2
            generalize lstF a s d L i = x at *
            go_wp2_with fail
            go_roundw
            case rel => exact ⟨i + 1, by omega, by go_num, (by repeat (first | exact G.refl _ | refine G.alloc ?_ _ | refine G.drewN ?_ _ | refine G.drew ?_ | refine G.trans ?_ (by assumption)))⟩
            case measure => simp [intOf]; omega
          · obtain rfl : i = p := by omega
            have gB := gA.trans hg
            clear gA hg H2 H1q
            go_wp2_with fail
            go_at_call 29
            refine (jleast_any a s d k L hu (by omega) (by omega) _ (HT.out.g gB)).mono ?_
            rintro e w5 ⟨rfl, g5⟩
            rw [HN1.out, HLT.out]
            have gC := gB.trans g5
            clear gB g5
            by_cases hkz : k = 0
            · have h00 := HFin.out.2 hkz
              rw [h00, if_pos hkz]
              have hkz2 : ((k : Int) == 0) = true := by simp; omega
              clear h00 hkz
              go_wp2_with fail
              go_at_call 19
              refine (works_any _ (HT.out.g gC)).mono ?_
              rintro e w8 ⟨rfl, g8⟩
              have gE := gC.trans g8
              go_wp2_with fail
              go_ret
              exact ⟨rfl, gE⟩
            · have h00 := HFin.out.1 hkz
              rw [← h00, HT1.out, if_neg hkz]
              have hkz2 : ((k : Int) == 0) = false := by simp; omega
              clear h00 hkz
              go_wp2_with fail
              go_at_call 19
              refine (works_any _ (HT.out.g gC)).mono ?_
              rintro e w8 ⟨rfl, g8⟩
              have gE := gC.trans g8
              go_wp2_with fail
              go_ret
              exact ⟨rfl, gE⟩

set_option maxHeartbeats 2000000 in
theorem contract (H : Type) (enc : TypeId × Value → H) (W : World) (base : Nat) (args : Array Value) (ds gs : List (DataW H)) (before : List MemPlace)
    (hval : ∀ (j : Nat) t v, Tryd.f12.params[j]? = some t → args[j]? = some v → Value.okWide Tryd.prog W .any base t v)
    (hW : DataW.Whole enc Tryd.prog Tryd.f12.params.toList Rows.jitterFirstSpec.vars false W args.toList ds gs before) (hL : laidMetH Tryd.prog Rows.jitterFirstRow.laid W) :
    Calls Tryd.prog 12 args W fun e W' => ∃ v, e = .returned v ∧ Rows.jitterFirstSpec.post enc Tryd.prog Tryd.f12 false true false false W args v W' := by
  have hW' := hW
  obtain ⟨p, q, hA0, hV, rfl, hfz, hnd⟩ := hW
  have hA : DataW.TrodAll enc Tryd.prog W 0 (fun _ => true) true Tryd.f12.params.toList args.toList ds p := hA0
  rw [Tryd.params12] at hA hval
  obtain ⟨v0, vs0, d0, ds0, p0, q0, hargs, rfl, rfl, h0, r0⟩ := trodAll_cons hA
  obtain ⟨v1, vs1, d1, ds1, p1, q1, rfl, rfl, rfl, h1, r1⟩ := trodAll_cons r0
  obtain ⟨v2, vs2, d2, ds2, p2, q2, rfl, rfl, rfl, h2, r2⟩ := trodAll_cons r1
  obtain ⟨v3, vs3, d3, ds3, p3, q3, rfl, rfl, rfl, h3, r3⟩ := trodAll_cons r2
  obtain ⟨v4, vs4, d4, ds4, p4, q4, rfl, rfl, rfl, h4, r4⟩ := trodAll_cons r3
  obtain ⟨v5, vs5, d5, ds5, p5, q5, rfl, rfl, rfl, h5, r5⟩ := trodAll_cons r4
  obtain ⟨rfl, rfl, rfl⟩ := trodAll_nil r5
  obtain rfl : args = #[v0, v1, v2, v3, v4, v5] := by cases args; simp_all
  obtain ⟨a0, rfl, rfl, rfl, w0⟩ := open_int Tryd.underlying22 (hval 0 22 v0 rfl rfl) h0
  simp [Lit.wf, IntKind.min, IntKind.max, IntKind.bits, IntKind.signed] at w0
  obtain ⟨a1, rfl, rfl, rfl, w1⟩ := open_int Tryd.underlying41 (hval 1 41 v1 rfl rfl) h1
  simp [Lit.wf, IntKind.min, IntKind.max, IntKind.bits, IntKind.signed] at w1
  obtain ⟨a2, rfl, rfl, rfl, w2⟩ := open_int Tryd.underlying42 (hval 2 42 v2 rfl rfl) h2
  simp [Lit.wf, IntKind.min, IntKind.max, IntKind.bits, IntKind.signed] at w2
  obtain ⟨a3, rfl, rfl, rfl, w3⟩ := open_int Tryd.underlying5 (hval 3 5 v3 rfl rfl) h3
  simp [Lit.wf, IntKind.min, IntKind.max, IntKind.bits, IntKind.signed] at w3
  obtain ⟨a4, rfl, rfl, rfl, w4⟩ := open_int Tryd.underlying5 (hval 4 5 v4 rfl rfl) h4
  simp [Lit.wf, IntKind.min, IntKind.max, IntKind.bits, IntKind.signed] at w4
  obtain ⟨a5, rfl, rfl, rfl, w5⟩ := open_int Tryd.underlying22 (hval 5 22 v5 rfl rfl) h5
  simp [Lit.wf, IntKind.min, IntKind.max, IntKind.bits, IntKind.signed] at w5
  refine (walk (w := W) a0 (by omega) (by omega) a1 (by omega) (by omega) a2 (by omega) (by omega) a3 (by omega) (by omega) a4 (by omega) (by omega) a5 (by omega) (by omega) (tab_of hL)).mono fun e W' ⟨he, hg⟩ => ?_
  subst he
  exact ⟨_, rfl, law_post laidOut_ (by
    intro t ht
    rw [Tryd.params12] at ht
    simp at ht
    rcases ht with rfl | rfl | rfl | rfl | rfl <;> exact ⟨by kernel_rfl, by decide +kernel⟩) hW' rfl rfl (by kernel_rfl) Tryd.underlying4 hg⟩
theorem laid_met (os : Os) : laidMet Tryd.prog Rows.jitterFirstRow.laid ((laidWorld os).forCall (fun _ _ => 0) ⟨#[], #[.int .u64 0, .int .u16 0, .int .u32 0, .int .u8 0, .int .u8 0, .int .u64 0], []⟩).memory :=
  laidMet_of_run' 8 (by kernel_rfl) (by kernel_rfl)
theorem reads (os : Os) {H : Type} (enc : TypeId × Value → H) : ∃ places, DataW.whole enc Tryd.prog ((laidWorld os).forCall (fun _ _ => 0) ⟨#[], #[.int .u64 0, .int .u16 0, .int .u32 0, .int .u8 0, .int .u8 0, .int .u64 0], []⟩).memory Tryd.f12.params.toList Rows.jitterFirstSpec.vars false (#[.int .u64 0, .int .u16 0, .int .u32 0, .int .u8 0, .int .u8 0, .int .u64 0] : Array Value).toList 8 = some ([.lit (.int .u64 0), .lit (.int .u16 0), .lit (.int .u32 0), .lit (.int .u8 0), .lit (.int .u8 0), .lit (.int .u64 0)], [], places) :=
  ⟨[], by kernel_rfl⟩
set_option maxRecDepth 100000 in
theorem lifted (os : Os) (started : os.Started) (H : Type) (enc : TypeId × Value → H) (F : Stop.Interp) :
    ReturnsInHanded {} Tryd.checked os 12 .any ((OpenSpec.ofChange Rows.jitterFirstSpec).preRow enc Tryd.prog Tryd.f12 Rows.jitterFirstRow.domain false Rows.jitterFirstRow.laid) (((OpenSpec.ofChange Rows.jitterFirstSpec).at F).post enc Tryd.prog Tryd.f12 false true false false) := by
  obtain ⟨places, hx⟩ := reads os enc
  refine returnsInHanded_of_row (C := Tryd.checked) (s := OpenSpec.ofChange Rows.jitterFirstSpec) own_ started (by kernel_rfl) Tryd.func12
    (witness_row_at (enc := enc) (C := Tryd.checked) false (laidWorld os) #[.int .u64 0, .int .u16 0, .int .u32 0, .int .u8 0, .int .u8 0, .int .u64 0] rfl (by kernel_rfl) (by kernel_rfl) (by kernel_rfl)
      (OpenSpec.preRow_of_cond 8 hx (by kernel_rfl) (fun k hk => by cases hk) (by kernel_rfl) (laid_met os))) ?_
  intro W base args ds gs before hval hW _ _ _ hL _ _
  exact contract H enc W base args ds gs before hval hW hL
theorem said : Rows.JitterFirstSaid :=
  OpenClaim.holds_of_cond 12 Tryd.f12 rfl rfl rfl rfl rfl rfl rfl ⟨rfl, rfl, rfl, rfl, rfl⟩ rfl rfl rfl rfl rfl (by kernel_rfl) Tryd.func12 (by kernel_rfl)
    (of_decide_eq_true (by kernel_rfl)) (by unfold Func.isWrapper; first | (rw [if_pos (by decide +kernel)]; kernel_rfl) | (rw [if_neg (by decide +kernel)]; exact ⟨rfl, rfl⟩))
    (fun os started H enc _ F => by rw [OpenClaim.pre_eq_preRow]; exact lifted os started H enc F)
theorem plain (f : FuncId) (fn : Func) (hf : Tryd.pinned.checked.prog.funcNamed "wakeman/wakemanlaw29.JitterFirst" = some f) (hfn : Tryd.pinned.checked.prog.funcs[f]? = some fn) :
    false = Tryd.pinned.checked.prog.looks [] ∧ ∀ (j : Nat) t, fn.params[j]? = some t → Tryd.pinned.checked.prog.wantsStandIn t = false := by
  obtain rfl : f = 12 := Option.some.inj ((show Tryd.prog.funcNamed "wakeman/wakemanlaw29.JitterFirst" = some 12 by kernel_rfl).symm.trans hf) |>.symm
  obtain rfl : fn = Tryd.f12 := (Option.some.inj (Tryd.func12.symm.trans hfn)).symm
  refine ⟨by kernel_rfl, fun j t ht => ?_⟩
  rw [Tryd.params12] at ht
  have hm := Array.mem_of_getElem? ht
  simp at hm
  rcases hm with rfl | rfl | rfl | rfl | rfl
  · exact (show Tryd.prog.wantsStandIn 22 = false by kernel_rfl)
  · exact (show Tryd.prog.wantsStandIn 41 = false by kernel_rfl)
  · exact (show Tryd.prog.wantsStandIn 42 = false by kernel_rfl)
  · exact (show Tryd.prog.wantsStandIn 5 = false by kernel_rfl)
  · exact (show Tryd.prog.wantsStandIn 22 = false by kernel_rfl)
theorem card : Rows.JitterFirstCardSaid :=
  Claim7.holds_tied_plain_at .later [] _ _ _ _ said (fun _ h => by cases h) (by kernel_rfl) (fun _ h => by cases h) jitterFirst_row_tie rfl ⟨rfl, rfl⟩ (by kernel_rfl) rfl plain (by kernel_rfl)
#print axioms card
end Go.Proofs.YtahjiiigpndaeaaDoor.lawJitterFirst
