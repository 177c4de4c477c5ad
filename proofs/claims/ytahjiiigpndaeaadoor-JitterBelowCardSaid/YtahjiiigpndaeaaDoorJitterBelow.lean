/-
  JitterBelow: a jitter is fixed by the seed, the job, the due time and the attempt; it is from 0 to the length less 1, and with the length 2^k it is the upper part of the jitter with the longest length; a greater length does not make it smaller.
  Conditions: none beyond the row's own (the table of package mix as the program's text lays it).
-/
import Derived.Test.YtahjiiigpndaeaaDoorTieM
import Derived.Test.YtahjiiigpndaeaaDoorJtN
set_option linter.unusedVariables false
set_option linter.unusedSimpArgs false
namespace Go.Proofs.YtahjiiigpndaeaaDoor.lawJitterBelow
open Go.ChangeShapes Go.WideShapes Go.ChangeAt Go.RowKit

theorem nm_jwE (j t k L : Int) (ht : 0 ≤ t ∧ t ≤ 253402300799) (hk : 1 ≤ k ∧ k ≤ 21) (hL : 0 ≤ L ∧ L ≤ 68719476736) : jwE (nmJ j) t k L = 0 := by
  unfold jwE jcE
  rw [if_pos (nmJ_ok j), if_pos ht, if_pos]
  refine ⟨by simp; omega, by omega, by omega⟩
theorem nm_jwV (a j t k L : Int) (ht : 0 ≤ t ∧ t ≤ 253402300799) (hk : 1 ≤ k ∧ k ≤ 21) (hL : 0 ≤ L ∧ L ≤ 68719476736) : jwV a (nmJ j) t k L = jw a (nmJ j) t k L := if_pos (nm_jwE j t k L ht hk hL)
theorem hi_mono (z x y : Int) (hz : 0 ≤ z) (hx : 0 ≤ x) (h : x ≤ y) : hiI z x ≤ hiI z y := by
  unfold hiI
  have h1 : z * x ≤ z * y := Int.mul_le_mul_of_nonneg_left h hz
  generalize z * x = X at *
  generalize z * y = Y at *
  omega
theorem jw_mono (a : Int) (s : ByteArray) (d t x y : Int) (hx : 0 ≤ x) (h : x ≤ y) : jw a s d t x ≤ jw a s d t y := by
  by_cases hz : x = 0
  · have h1 : jw a s d t x = 0 := if_pos hz
    rw [h1]
    exact (jw_bd a s d t y (by omega)).1
  · have h1 : jw a s d t x = hiI (mixI (keyI a s d t)) x := if_neg hz
    have h2 : jw a s d t y = hiI (mixI (keyI a s d t)) y := if_neg (by omega)
    rw [h1, h2]
    exact hi_mono _ x y (mixI_bd _).1 hx h
theorem jw_pow (a : Int) (s : ByteArray) (d t : Int) (i : Nat) (hi : i ≤ 36) : jw a s d t (2 ^ i) = jw a s d t 68719476736 / 2 ^ (36 - i) := by
  have hp : (0 : Int) < 2 ^ i := Int.pow_pos (by decide)
  have h1 : jw a s d t (2 ^ i) = hiI (mixI (keyI a s d t)) (2 ^ i) := if_neg (by omega)
  have h2 : jw a s d t 68719476736 = hiI (mixI (keyI a s d t)) 68719476736 := if_neg (by decide)
  rw [h1, h2]
  unfold hiI
  generalize mixI (keyI a s d t) = z
  have hq : (0 : Int) < 2 ^ (36 - i) := Int.pow_pos (by decide)
  have e : (68719476736 : Int) = 2 ^ i * 2 ^ (36 - i) := by
    rw [← Int.pow_add, show i + (36 - i) = 36 by omega]
    rfl
  rw [Int.ediv_ediv_of_nonneg (by decide), e, ← Int.mul_assoc, Int.mul_ediv_mul_of_pos_left _ _ hq]
theorem pow_le36 (i : Nat) (h : i ≤ 36) : (2 : Int) ^ i ≤ 68719476736 := by
  have h1 : (2 : Int) ^ 36 = 2 ^ i * 2 ^ (36 - i) := by rw [← Int.pow_add, show i + (36 - i) = 36 by omega]
  have h2 : (0 : Int) < 2 ^ i := Int.pow_pos (by decide)
  have h3 : (0 : Int) < 2 ^ (36 - i) := Int.pow_pos (by decide)
  have h4 : (2 : Int) ^ i * 1 ≤ 2 ^ i * 2 ^ (36 - i) := Int.mul_le_mul_of_nonneg_left (by omega) (by omega)
  rw [← h1, Int.mul_one] at h4
  exact h4
theorem pow_facts (i : Nat) (h : i ≤ 36) : ∃ B : Int, (2 : Int) ^ i = B ∧ 0 < B ∧ B ≤ 68719476736 ∧ wrap64 (2 ^ i) = B := by
  refine ⟨2 ^ i, rfl, Int.pow_pos (by decide), pow_le36 i h, ?_⟩
  have h1 := pow_le36 i h
  have h2 : (0 : Int) < 2 ^ i := Int.pow_pos (by decide)
  generalize (2 : Int) ^ i = B at *
  unfold wrap64
  omega
set_option maxRecDepth 20000 in
set_option maxHeartbeats 8000000 in
theorem walk (w : World) (a : Int) (a0 : 0 ≤ a) (a1 : a ≤ 18446744073709551615) (j : Int) (j0 : 0 ≤ j) (j1 : j ≤ 65535) (d : Int) (d0 : 0 ≤ d) (d1 : d ≤ 4294967295) (c : Int) (c0 : 0 ≤ c) (c1 : c ≤ 255) (u : Int) (u0 : 0 ≤ u) (u1 : u ≤ 18446744073709551615) (v : Int) (v0 : 0 ≤ v) (v1 : v ≤ 18446744073709551615) (ht : Tab w) :
    Calls Tryd.prog 7 #[.int .u64 a, .int .u16 j, .int .u32 d, .int .u8 c, .int .u64 u, .int .u64 v] w fun e w' => e = .returned (.bool true) ∧ G w w' := by
  have HT := Lib.hid ht
  have hu : u64 a := ⟨a0, by omega⟩
  clear ht
  obtain ⟨k, hkk⟩ : ∃ k, c % 21 = k := ⟨_, rfl⟩
  have k0 : 0 ≤ k := by omega
  have k1 : k ≤ 20 := by omega
  obtain ⟨x, hx⟩ : ∃ x, u % 68719476737 = x := ⟨_, rfl⟩
  obtain ⟨y, hy⟩ : ∃ y, v % 68719476737 = y := ⟨_, rfl⟩
  have x0 : 0 ≤ x := by omega
  have x1 : x ≤ 68719476736 := by omega
  have y0 : 0 ≤ y := by omega
  have y1 : y ≤ 68719476736 := by omega
  have hd : 0 ≤ d ∧ d ≤ 253402300799 := ⟨d0, by omega⟩
  have HW : Hid (∀ L, 0 ≤ L → L ≤ 68719476736 → jwE (nmJ j) d (1 + k) L = 0 ∧ jwV a (nmJ j) d (1 + k) L = jw a (nmJ j) d (1 + k) L ∧ (0 ≤ jw a (nmJ j) d (1 + k) L ∧ jw a (nmJ j) d (1 + k) L < max L 1)) := Lib.hid (fun L h0 h1 =>
    ⟨nm_jwE j d _ L hd (by omega) ⟨h0, h1⟩, nm_jwV a j d _ L hd (by omega) ⟨h0, h1⟩, jw_bd a (nmJ j) d _ L h0⟩)
  clear hd
  obtain ⟨s, hs⟩ : ∃ s, nmJ j = s := ⟨_, rfl⟩
  have HNs := Lib.hid hs
  rw [hs] at HW
  clear hs
  by_cases hxy : y < x
  · go_enter Tryd.func7, Tryd.ntmps7
    go_wp2_with fail
    go_at_call 24
    refine (named_any j j0 j1 _).mono ?_
    rintro e w1 ⟨rfl, g1⟩
    rw [HNs.out]
    go_wp2_with fail
    try rw [hkk]
    try rw [hx]
    try rw [hy]
    clear hkk hx hy
    go_at_call 14
    refine (wait_any a s d (1 + k) y hu (by omega) (by omega) _ (HT.out.g g1)).mono ?_
    rintro e w2 ⟨rfl, g2⟩
    obtain ⟨hE1, hV1, hb1, hb2⟩ := HW.out y y0 y1
    rw [hE1, hV1]
    obtain ⟨m, hm⟩ : ∃ m, jw a s d (1 + k) y = m := ⟨_, rfl⟩
    rw [hm] at hb1 hb2 ⊢
    have gA := g1.trans g2
    clear hE1 hV1 g1 g2
    go_wp2_with fail
    go_at_call 14
    refine (wait_any a s d (1 + k) x hu (by omega) (by omega) _ (HT.out.g gA)).mono ?_
    rintro e w3 ⟨rfl, g3⟩
    obtain ⟨hE1, hV1, hb3, hb4⟩ := HW.out x x0 x1
    have hmn := jw_mono a s d (1 + k) y x y0 (by omega)
    rw [hE1, hV1]
    obtain ⟨n, hn⟩ : ∃ m, jw a s d (1 + k) x = m := ⟨_, rfl⟩
    rw [hn] at hb3 hb4 hmn ⊢
    rw [hm] at hmn
    replace gA := gA.trans g3
    clear hE1 hV1 g3 hm hn
    go_wp2_with fail
    all_goals (
      go_at_call 14
      refine (wait_any a s d (1 + k) 68719476736 hu (by omega) (by omega) _ (HT.out.g gA)).mono ?_
      rintro e w4 ⟨rfl, g4⟩
      obtain ⟨hE1, hV1, hb6, hb7⟩ := HW.out 68719476736 (by decide) (by decide)
      rw [hE1, hV1]
      rw [show max (68719476736 : Int) 1 = 68719476736 from rfl] at hb7
      obtain ⟨f, hf⟩ : ∃ m, jw a s d (1 + k) 68719476736 = m := ⟨_, rfl⟩
      rw [hf] at hb6 hb7 ⊢
      have HF := Lib.hid hf
      have gB := gA.trans g4
      clear hE1 hV1 g4 hf
      have HP : Hid (∀ i : Nat, i ≤ 36 → jw a s d (1 + k) (2 ^ i) = f / 2 ^ (36 - i)) := Lib.hid (fun i hi => by rw [← HF.out]; exact jw_pow a s d (1 + k) i hi)
      go_wp2_with fail
      go_loopw [111] (fun kv wr => ∃ i : Nat, i ≤ 37 ∧ kv = .int .i64 i ∧ G w4 wr) (fun kv _ => 37 - (intOf kv).toNat)
      case atStart => exact ⟨0, by omega, rfl, G.refl _⟩
      case round =>
        obtain ⟨i, hi, rfl, hg⟩ := hrel
        by_cases hlt : i < 37
        · have hil : (i : Int) < 37 := by omega
          obtain ⟨B, hB, hp0, hp1, hwB⟩ := pow_facts i (by omega)
          have HPi := HP.out i (by omega)
          rw [hB] at HPi
          obtain ⟨hE1, hV1, -, -⟩ := HW.out B (Int.le_of_lt hp0) hp1
          rw [HPi] at hV1
          have HE1 := Lib.hid hE1
          have HV1 := Lib.hid hV1
          have HwB := Lib.hid hwB
          clear hE1 hV1 hB hwB HPi
          go_wp2_with fail
          rw [HwB.out]
          go_at_call 14
          refine (wait_any a s d (1 + k) B hu (by omega) (by omega) _ (HT.out.g (gB.trans hg))).mono ?_
          rintro e w5 ⟨rfl, g5⟩
          rw [HE1.out, HV1.out]
          go_wp2_with fail
          go_roundw
          case rel => exact ⟨i + 1, by omega, by go_num, hg.trans g5⟩
          case measure => simp [intOf]; omega
        · obtain rfl : i = 37 := by omega
          obtain ⟨hE1, hV1, -, -⟩ := HW.out 0 (by decide) (by decide)
          rw [show jw a s d (1 + k) 0 = 0 from if_pos rfl] at hV1
          have HE1 := Lib.hid hE1
          have HV1 := Lib.hid hV1
          have gC := gB.trans hg
          clear hE1 hV1 hg gB
          go_wp2_with fail
          go_at_call 14
          refine (wait_any a s d (1 + k) 0 hu (by omega) (by omega) _ (HT.out.g gC)).mono ?_
          rintro e w5 ⟨rfl, g5⟩
          rw [HE1.out, HV1.out]
          replace gC := gC.trans g5
          clear g5
          go_wp2_with fail
          go_at_call 19
          refine (works_any _ (HT.out.g gC)).mono ?_
          rintro e w6 ⟨rfl, g6⟩
          replace gC := gC.trans g6
          clear g6
          go_wp2_with fail
          go_ret
          exact ⟨rfl, gC⟩)
  · have hxy2 : x ≤ y := by omega
    clear hxy
    go_enter Tryd.func7, Tryd.ntmps7
    go_wp2_with fail
    go_at_call 24
    refine (named_any j j0 j1 _).mono ?_
    rintro e w1 ⟨rfl, g1⟩
    rw [HNs.out]
    go_wp2_with fail
    try rw [hkk]
    try rw [hx]
    try rw [hy]
    clear hkk hx hy
    go_at_call 14
    refine (wait_any a s d (1 + k) x hu (by omega) (by omega) _ (HT.out.g g1)).mono ?_
    rintro e w2 ⟨rfl, g2⟩
    obtain ⟨hE1, hV1, hb1, hb2⟩ := HW.out x x0 x1
    rw [hE1, hV1]
    obtain ⟨m, hm⟩ : ∃ m, jw a s d (1 + k) x = m := ⟨_, rfl⟩
    rw [hm] at hb1 hb2 ⊢
    have gA := g1.trans g2
    clear hE1 hV1 g1 g2
    go_wp2_with fail
    go_at_call 14
    refine (wait_any a s d (1 + k) y hu (by omega) (by omega) _ (HT.out.g gA)).mono ?_
    rintro e w3 ⟨rfl, g3⟩
    obtain ⟨hE1, hV1, hb3, hb4⟩ := HW.out y y0 y1
    have hmn := jw_mono a s d (1 + k) x y x0 (by omega)
    rw [hE1, hV1]
    obtain ⟨n, hn⟩ : ∃ m, jw a s d (1 + k) y = m := ⟨_, rfl⟩
    rw [hn] at hb3 hb4 hmn ⊢
    rw [hm] at hmn
    replace gA := gA.trans g3
    clear hE1 hV1 g3 hm hn
    go_wp2_with fail
    all_goals (
      go_at_call 14
      refine (wait_any a s d (1 + k) 68719476736 hu (by omega) (by omega) _ (HT.out.g gA)).mono ?_
      rintro e w4 ⟨rfl, g4⟩
      obtain ⟨hE1, hV1, hb6, hb7⟩ := HW.out 68719476736 (by decide) (by decide)
      rw [hE1, hV1]
      rw [show max (68719476736 : Int) 1 = 68719476736 from rfl] at hb7
      obtain ⟨f, hf⟩ : ∃ m, jw a s d (1 + k) 68719476736 = m := ⟨_, rfl⟩
      rw [hf] at hb6 hb7 ⊢
      have HF := Lib.hid hf
      have gB := gA.trans g4
      clear hE1 hV1 g4 hf
      have HP : Hid (∀ i : Nat, i ≤ 36 → jw a s d (1 + k) (2 ^ i) = f / 2 ^ (36 - i)) := Lib.hid (fun i hi => by rw [← HF.out]; exact jw_pow a s d (1 + k) i hi)
      go_wp2_with fail
      go_loopw [111] (fun kv wr => ∃ i : Nat, i ≤ 37 ∧ kv = .int .i64 i ∧ G w4 wr) (fun kv _ => 37 - (intOf kv).toNat)
      case atStart => exact ⟨0, by omega, rfl, G.refl _⟩
      case round =>
        obtain ⟨i, hi, rfl, hg⟩ := hrel
        by_cases hlt : i < 37
        · have hil : (i : Int) < 37 := by omega
          obtain ⟨B, hB, hp0, hp1, hwB⟩ := pow_facts i (by omega)
          have HPi := HP.out i (by omega)
          rw [hB] at HPi
          obtain ⟨hE1, hV1, -, -⟩ := HW.out B (Int.le_of_lt hp0) hp1
          rw [HPi] at hV1
          have HE1 := Lib.hid hE1
          have HV1 := Lib.hid hV1
          have HwB := Lib.hid hwB
          clear hE1 hV1 hB hwB HPi
          go_wp2_with fail
          rw [HwB.out]
          go_at_call 14
          refine (wait_any a s d (1 + k) B hu (by omega) (by omega) _ (HT.out.g (gB.trans hg))).mono ?_
          rintro e w5 ⟨rfl, g5⟩
          rw [HE1.out, HV1.out]
          go_wp2_with fail
          go_roundw
          case rel => exact ⟨i + 1, by omega, by go_num, hg.trans g5⟩
          case measure => simp [intOf]; omega
        · obtain rfl : i = 37 := by omega
          obtain ⟨hE1, hV1, -, -⟩ := HW.out 0 (by decide) (by decide)
          rw [show jw a s d (1 + k) 0 = 0 from if_pos rfl] at hV1
          have HE1 := Lib.hid hE1
          have HV1 := Lib.hid hV1
          have gC := gB.trans hg
          clear hE1 hV1 hg gB
          go_wp2_with fail
          go_at_call 14
          refine (wait_any a s d (1 + k) 0 hu (by omega) (by omega) _ (HT.out.g gC)).mono ?_
          rintro e w5 ⟨rfl, g5⟩
          rw [HE1.out, HV1.out]
          replace gC := gC.trans g5
          clear g5
          go_wp2_with fail
          go_at_call 19
          refine (works_any _ (HT.out.g gC)).mono ?_
          rintro e w6 ⟨rfl, g6⟩
          replace gC := gC.trans g6
          clear g6
          go_wp2_with fail
          go_ret
          exact ⟨rfl, gC⟩)

set_option maxHeartbeats 2000000 in
theorem contract (H : Type) (enc : TypeId × Value → H) (W : World) (base : Nat) (args : Array Value) (ds gs : List (DataW H)) (before : List MemPlace)
    (hval : ∀ (j : Nat) t v, Tryd.f7.params[j]? = some t → args[j]? = some v → Value.okWide Tryd.prog W .any base t v)
    (hW : DataW.Whole enc Tryd.prog Tryd.f7.params.toList Rows.jitterBelowSpec.vars false W args.toList ds gs before) (hL : laidMetH Tryd.prog Rows.jitterBelowRow.laid W) :
    Calls Tryd.prog 7 args W fun e W' => ∃ v, e = .returned v ∧ Rows.jitterBelowSpec.post enc Tryd.prog Tryd.f7 false true false false W args v W' := by
  have hW' := hW
  obtain ⟨p, q, hA0, hV, rfl, hfz, hnd⟩ := hW
  have hA : DataW.TrodAll enc Tryd.prog W 0 (fun _ => true) true Tryd.f7.params.toList args.toList ds p := hA0
  rw [Tryd.params7] at hA hval
  obtain ⟨v0, vs0, d0, ds0, p0, q0, hargs, rfl, rfl, h0, r0⟩ := trodAll_cons hA
  obtain ⟨v1, vs1, d1, ds1, p1, q1, rfl, rfl, rfl, h1, r1⟩ := trodAll_cons r0
  obtain ⟨v2, vs2, d2, ds2, p2, q2, rfl, rfl, rfl, h2, r2⟩ := trodAll_cons r1
  obtain ⟨v3, vs3, d3, ds3, p3, q3, rfl, rfl, rfl, h3, r3⟩ := trodAll_cons r2
  obtain ⟨v4, vs4, d4, ds4, p4, q4, rfl, rfl, rfl, h4, r4⟩ := trodAll_cons r3
  obtain ⟨v5, vs5, d5, ds5, p5, q5, rfl, rfl, rfl, h5, r5⟩ := trodAll_cons r4
  obtain ⟨rfl, rfl, rfl⟩ := trodAll_nil r5
  obtain rfl : args = #[v0, v1, v2, v3, v4, v5] := by cases args; simp_all
  obtain ⟨a0, rfl, rfl, rfl, w0⟩ := open_int Tryd.underlying22 (hval 0 22 v0 rfl rfl) h0
  simp [Lit.wf, IntKind.min, IntKind.max, IntKind.bits, IntKind.signed] at w0
  obtain ⟨a1, rfl, rfl, rfl, w1⟩ := open_int Tryd.underlying41 (hval 1 41 v1 rfl rfl) h1
  simp [Lit.wf, IntKind.min, IntKind.max, IntKind.bits, IntKind.signed] at w1
  obtain ⟨a2, rfl, rfl, rfl, w2⟩ := open_int Tryd.underlying42 (hval 2 42 v2 rfl rfl) h2
  simp [Lit.wf, IntKind.min, IntKind.max, IntKind.bits, IntKind.signed] at w2
  obtain ⟨a3, rfl, rfl, rfl, w3⟩ := open_int Tryd.underlying5 (hval 3 5 v3 rfl rfl) h3
  simp [Lit.wf, IntKind.min, IntKind.max, IntKind.bits, IntKind.signed] at w3
  obtain ⟨a4, rfl, rfl, rfl, w4⟩ := open_int Tryd.underlying22 (hval 4 22 v4 rfl rfl) h4
  simp [Lit.wf, IntKind.min, IntKind.max, IntKind.bits, IntKind.signed] at w4
  obtain ⟨a5, rfl, rfl, rfl, w5⟩ := open_int Tryd.underlying22 (hval 5 22 v5 rfl rfl) h5
  simp [Lit.wf, IntKind.min, IntKind.max, IntKind.bits, IntKind.signed] at w5
  refine (walk (w := W) a0 (by omega) (by omega) a1 (by omega) (by omega) a2 (by omega) (by omega) a3 (by omega) (by omega) a4 (by omega) (by omega) a5 (by omega) (by omega) (tab_of hL)).mono fun e W' ⟨he, hg⟩ => ?_
  subst he
  exact ⟨_, rfl, law_post laidOut_ (by
    intro t ht
    rw [Tryd.params7] at ht
    simp at ht
    rcases ht with rfl | rfl | rfl | rfl | rfl <;> exact ⟨by kernel_rfl, by decide +kernel⟩) hW' rfl rfl (by kernel_rfl) Tryd.underlying4 hg⟩
theorem laid_met (os : Os) : laidMet Tryd.prog Rows.jitterBelowRow.laid ((laidWorld os).forCall (fun _ _ => 0) ⟨#[], #[.int .u64 0, .int .u16 0, .int .u32 0, .int .u8 0, .int .u64 0, .int .u64 0], []⟩).memory :=
  laidMet_of_run' 8 (by kernel_rfl) (by kernel_rfl)
theorem reads (os : Os) {H : Type} (enc : TypeId × Value → H) : ∃ places, DataW.whole enc Tryd.prog ((laidWorld os).forCall (fun _ _ => 0) ⟨#[], #[.int .u64 0, .int .u16 0, .int .u32 0, .int .u8 0, .int .u64 0, .int .u64 0], []⟩).memory Tryd.f7.params.toList Rows.jitterBelowSpec.vars false (#[.int .u64 0, .int .u16 0, .int .u32 0, .int .u8 0, .int .u64 0, .int .u64 0] : Array Value).toList 8 = some ([.lit (.int .u64 0), .lit (.int .u16 0), .lit (.int .u32 0), .lit (.int .u8 0), .lit (.int .u64 0), .lit (.int .u64 0)], [], places) :=
  ⟨[], by kernel_rfl⟩
set_option maxRecDepth 100000 in
theorem lifted (os : Os) (started : os.Started) (H : Type) (enc : TypeId × Value → H) (F : Stop.Interp) :
    ReturnsInHanded {} Tryd.checked os 7 .any ((OpenSpec.ofChange Rows.jitterBelowSpec).preRow enc Tryd.prog Tryd.f7 Rows.jitterBelowRow.domain false Rows.jitterBelowRow.laid) (((OpenSpec.ofChange Rows.jitterBelowSpec).at F).post enc Tryd.prog Tryd.f7 false true false false) := by
  obtain ⟨places, hx⟩ := reads os enc
  refine returnsInHanded_of_row (C := Tryd.checked) (s := OpenSpec.ofChange Rows.jitterBelowSpec) own_ started (by kernel_rfl) Tryd.func7
    (witness_row_at (enc := enc) (C := Tryd.checked) false (laidWorld os) #[.int .u64 0, .int .u16 0, .int .u32 0, .int .u8 0, .int .u64 0, .int .u64 0] rfl (by kernel_rfl) (by kernel_rfl) (by kernel_rfl)
      (OpenSpec.preRow_of_cond 8 hx (by kernel_rfl) (fun k hk => by cases hk) (by kernel_rfl) (laid_met os))) ?_
  intro W base args ds gs before hval hW _ _ _ hL _ _
  exact contract H enc W base args ds gs before hval hW hL
theorem said : Rows.JitterBelowSaid :=
  OpenClaim.holds_of_cond 7 Tryd.f7 rfl rfl rfl rfl rfl rfl rfl ⟨rfl, rfl, rfl, rfl, rfl⟩ rfl rfl rfl rfl rfl (by kernel_rfl) Tryd.func7 (by kernel_rfl)
    (of_decide_eq_true (by kernel_rfl)) (by unfold Func.isWrapper; first | (rw [if_pos (by decide +kernel)]; kernel_rfl) | (rw [if_neg (by decide +kernel)]; exact ⟨rfl, rfl⟩))
    (fun os started H enc _ F => by rw [OpenClaim.pre_eq_preRow]; exact lifted os started H enc F)
theorem plain (f : FuncId) (fn : Func) (hf : Tryd.pinned.checked.prog.funcNamed "wakeman/wakemanlaw29.JitterBelow" = some f) (hfn : Tryd.pinned.checked.prog.funcs[f]? = some fn) :
    false = Tryd.pinned.checked.prog.looks [] ∧ ∀ (j : Nat) t, fn.params[j]? = some t → Tryd.pinned.checked.prog.wantsStandIn t = false := by
  obtain rfl : f = 7 := Option.some.inj ((show Tryd.prog.funcNamed "wakeman/wakemanlaw29.JitterBelow" = some 7 by kernel_rfl).symm.trans hf) |>.symm
  obtain rfl : fn = Tryd.f7 := (Option.some.inj (Tryd.func7.symm.trans hfn)).symm
  refine ⟨by kernel_rfl, fun j t ht => ?_⟩
  rw [Tryd.params7] at ht
  have hm := Array.mem_of_getElem? ht
  simp at hm
  rcases hm with rfl | rfl | rfl | rfl | rfl
  · exact (show Tryd.prog.wantsStandIn 22 = false by kernel_rfl)
  · exact (show Tryd.prog.wantsStandIn 41 = false by kernel_rfl)
  · exact (show Tryd.prog.wantsStandIn 42 = false by kernel_rfl)
  · exact (show Tryd.prog.wantsStandIn 5 = false by kernel_rfl)
  · exact (show Tryd.prog.wantsStandIn 22 = false by kernel_rfl)
theorem card : Rows.JitterBelowCardSaid :=
  Claim7.holds_tied_plain_at .later [] _ _ _ _ said (fun _ h => by cases h) (by kernel_rfl) (fun _ h => by cases h) jitterBelow_row_tie rfl ⟨rfl, rfl⟩ (by kernel_rfl) rfl plain (by kernel_rfl)
#print axioms card
end Go.Proofs.YtahjiiigpndaeaaDoor.lawJitterBelow
