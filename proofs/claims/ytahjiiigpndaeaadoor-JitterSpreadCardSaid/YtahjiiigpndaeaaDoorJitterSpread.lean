/-
  JitterSpread: the jitters of several occurrences are those of their first attempts.
  Conditions: none beyond the row's own (the table of package mix as the program's text lays it).
-/
import Derived.Test.YtahjiiigpndaeaaDoorTieM
import Derived.Test.YtahjiiigpndaeaaDoorJtN
set_option linter.unusedVariables false
set_option linter.unusedSimpArgs false
namespace Go.Proofs.YtahjiiigpndaeaaDoor.lawJitterSpread
open Go.ChangeShapes Go.WideShapes Go.ChangeAt Go.RowKit

theorem nm_jwE (j t k L : Int) (ht : 0 ≤ t ∧ t ≤ 253402300799) (hk : 1 ≤ k ∧ k ≤ 21) (hL : 0 ≤ L ∧ L ≤ 68719476736) : jwE (nmJ j) t k L = 0 := by
  unfold jwE jcE
  rw [if_pos (nmJ_ok j), if_pos ht, if_pos]
  refine ⟨by simp; omega, by omega, by omega⟩
theorem nm_jwV (a j t k L : Int) (ht : 0 ≤ t ∧ t ≤ 253402300799) (hk : 1 ≤ k ∧ k ≤ 21) (hL : 0 ≤ L ∧ L ≤ 68719476736) : jwV a (nmJ j) t k L = jw a (nmJ j) t k L := if_pos (nm_jwE j t k L ht hk hL)
theorem nm_due {f b : Int} {i : Nat} (hf : 0 ≤ f) (hb : 1 ≤ b) (h : f + 60 * b ≤ 253402300799) (hi : i ≤ 60) : 0 ≤ f + (i : Int) * b ∧ f + (i : Int) * b ≤ 253402300799 ∧ 0 ≤ (i : Int) * b ∧ (i : Int) * b ≤ 253402300799 := by
  have h1 : (i : Int) * b ≤ 60 * b := Int.mul_le_mul_of_nonneg_right (by omega) (by omega)
  have h2 := due_nn (i := i) hb
  generalize (i : Int) * b = X at *
  omega
theorem nm_sdE (j f b : Int) (m : Nat) (L : Int) (hf : 0 ≤ f ∧ f ≤ 253402300799) (hb : 1 ≤ b ∧ b ≤ 68719476736) (hm : m ≤ 60) (h : f + 60 * b ≤ 253402300799) (hL : 0 ≤ L ∧ L ≤ 68719476736) : sdE (nmJ j) f b m L = 0 := by
  have h1 : jcE (nmJ j) f (spB b m) L = 0 := by
    unfold jcE
    rw [if_pos (nmJ_ok j), if_pos hf, if_pos]
    refine ⟨by unfold spB; simp; omega, by omega, by omega⟩
  unfold sdE
  rw [if_pos h1, if_neg]
  intro hT
  obtain ⟨h2, h3⟩ := hT
  obtain ⟨k, hk⟩ : ∃ k : Nat, (m : Int) - 1 = k := ⟨m - 1, by omega⟩
  rw [hk] at h3
  have := nm_due (i := k) hf.1 hb.1 h (by omega)
  omega
theorem nm_spL (a j f b : Int) (m : Nat) (L : Int) (h : sdE (nmJ j) f b m L = 0) : spL a (nmJ j) f b m L = (List.range m).map (spF a (nmJ j) f b L) := by
  unfold spL
  rw [if_pos h, Int.toNat_natCast]
theorem spF_get (a : Int) (s : ByteArray) (d st L : Int) {m k : Nat} (h : k < m) : (vI .i64 ((List.range m).map (spF a s d st L)))[k]? = some (.int .i64 (spF a s d st L k)) := by
  simp [vI, h]
set_option maxRecDepth 20000 in
set_option maxHeartbeats 4000000 in
theorem walk (w : World) (a : Int) (a0 : 0 ≤ a) (a1 : a ≤ 18446744073709551615) (j : Int) (j0 : 0 ≤ j) (j1 : j ≤ 65535) (f : Int) (f0 : 0 ≤ f) (f1 : f ≤ 4294967295) (st : Int) (s0 : 0 ≤ st) (s1 : st ≤ 4294967295) (c : Int) (c0 : 0 ≤ c) (c1 : c ≤ 255) (l : Int) (l0 : 0 ≤ l) (l1 : l ≤ 18446744073709551615) (ht : Tab w) :
    Calls Tryd.prog 9 #[.int .u64 a, .int .u16 j, .int .u32 f, .int .u32 st, .int .u8 c, .int .u64 l] w fun e w' => e = .returned (.bool true) ∧ G w w' := by
  have HT := Lib.hid ht
  have hu : u64 a := ⟨a0, by omega⟩
  clear ht
  obtain ⟨m, hmm⟩ : ∃ m : Nat, c % 61 = m := ⟨(c % 61).toNat, by omega⟩
  obtain ⟨L, hLL⟩ : ∃ L, l % 68719476737 = L := ⟨_, rfl⟩
  have m1 : m ≤ 60 := by omega
  have L0 : 0 ≤ L := by omega
  have L1 : L ≤ 68719476736 := by omega
  obtain ⟨y, hy⟩ : ∃ y, st % 68719476736 = y := ⟨_, rfl⟩
  have y0 : 0 ≤ y := by omega
  have y1 : y ≤ 4294967295 := by omega
  by_cases hov : 253402300799 < f + 60 * (y + 1)
  · obtain ⟨q, hqq⟩ : ∃ q, (y + 1) % 100000 = q := ⟨_, rfl⟩
    have hB0 : 1 ≤ q + 1 := by omega
    have hB1 : q + 1 ≤ 68719476736 := by omega
    have hB2 : f + 60 * (q + 1) ≤ 253402300799 := by omega
    have hE := nm_sdE j f (q + 1) m L ⟨f0, by omega⟩ ⟨hB0, hB1⟩ m1 hB2 ⟨L0, L1⟩
    have HL := Lib.hid (nm_spL a j f (q + 1) m L hE)
    have HE := Lib.hid hE
    have HW : Hid (∀ i : Nat, i < m → (0 ≤ f + (i : Int) * (q + 1) ∧ f + (i : Int) * (q + 1) ≤ 253402300799) ∧ (0 ≤ (i : Int) * (q + 1) ∧ (i : Int) * (q + 1) ≤ 253402300799) ∧ jwE (nmJ j) (f + (i : Int) * (q + 1)) 1 L = 0 ∧ jwV a (nmJ j) (f + (i : Int) * (q + 1)) 1 L = spF a (nmJ j) f (q + 1) L i) := Lib.hid (fun i hi => by
      obtain ⟨h1, h2, h3, h4⟩ := nm_due (i := i) f0 hB0 hB2 (by omega)
      exact ⟨⟨h1, h2⟩, ⟨h3, h4⟩, nm_jwE j _ 1 L ⟨h1, h2⟩ (by omega) ⟨L0, L1⟩, nm_jwV a j _ 1 L ⟨h1, h2⟩ (by omega) ⟨L0, L1⟩⟩)
    clear hE hB2
    obtain ⟨s, hs⟩ : ∃ s, nmJ j = s := ⟨_, rfl⟩
    have HN := Lib.hid hs
    rw [hs] at HE HL HW
    clear hs
    go_enter Tryd.func9, Tryd.ntmps9
    go_wp2_with fail
    go_at_call 24
    refine (named_any j j0 j1 _).mono ?_
    rintro e w1 ⟨rfl, g1⟩
    rw [HN.out]
    go_wp2_with fail
    try rw [hmm]
    try rw [hy]
    try rw [hqq]
    try rw [hLL]
    clear hmm hy hqq hLL
    go_at_call 17
    refine (jspread_any a s f (q + 1) m L hu (by omega) (by omega) _ (HT.out.g g1)).mono ?_
    rintro e w2 ⟨v2, rfl, r2, g2⟩
    rw [HE.out]
    rw [HL.out] at r2
    have gA := g1.trans g2
    clear g1 g2
    obtain ⟨A1, q1, rfl, hq1, hm1, hr1⟩ := r2
    simp only [vI_len, List.length_map, List.length_range] at hq1 hr1 ⊢
    have H1 : Hid (∀ k, k < m → ∃ b o, A1 = some ⟨b, o, none⟩ ∧ w2.cell? ⟨b, o + k, none⟩ = some (.int .i64 (spF a s f (q + 1) L k))) := Lib.hid (fun k hk => by
      obtain ⟨b, o, e, h⟩ := hr1 (by omega)
      exact ⟨b, o, e, h k _ (spF_get a s f (q + 1) L hk)⟩)
    clear hr1
    go_wp2_with fail
    go_loopw [65] (fun kv wr => ∃ k : Nat, k ≤ m ∧ kv = .int .i64 k ∧ G w2 wr) (fun kv _ => m - (intOf kv).toNat)
    case atStart => exact ⟨0, by omega, rfl, G.refl _⟩
    case round =>
      obtain ⟨k, hk, rfl, hg⟩ := hrel
      by_cases hlt : k < m
      · have hkm : (k : Int) < m := by omega
        obtain ⟨b, o, rfl, hc⟩ := H1.out k hlt
        have d0 := hg.cell (World.block_lt_of_cell? w2 _ hc) hc
        obtain ⟨⟨t0, t1⟩, ⟨x0, x1⟩, hE1, hV1⟩ := HW.out k hlt
        have HE1 := Lib.hid hE1
        have HV1 := Lib.hid hV1
        have p1 : IntKind.i64.wrap ((k : Int) * (q + 1)) = (k : Int) * (q + 1) := by rw [IntKind.wrap_i64]; omega
        have p2 : IntKind.i64.wrap (f + (k : Int) * (q + 1)) = f + (k : Int) * (q + 1) := by rw [IntKind.wrap_i64]; omega
        clear hc hE1 hV1 x0 x1
        generalize spF a s f (q + 1) L k = X at *
        go_wp2_with fail
        go_at_call 14
        refine (wait_any a s (f + (k : Int) * (q + 1)) 1 L hu (by omega) (by omega) _ (HT.out.g (gA.trans hg))).mono ?_
        rintro e w3 ⟨rfl, g3⟩
        rw [HE1.out, HV1.out]
        clear p1 p2 t0 t1
        go_wp2_with fail
        go_roundw
        case rel => exact ⟨k + 1, by omega, by go_num, hg.trans g3⟩
        case measure => simp [intOf]; omega
      · obtain rfl : k = m := by omega
        go_wp2_with fail
        go_at_call 19
        refine (works_any _ (HT.out.g (gA.trans hg))).mono ?_
        rintro e w8 ⟨rfl, g8⟩
        have gE := (gA.trans hg).trans g8
        go_wp2_with fail
        go_ret
        exact ⟨rfl, gE⟩
  · have hov2 : f + 60 * (y + 1) ≤ 253402300799 := by omega
    clear hov
    have hB0 : 1 ≤ y + 1 := by omega
    have hB1 : y + 1 ≤ 68719476736 := by omega
    have hB2 : f + 60 * (y + 1) ≤ 253402300799 := by omega
    have hE := nm_sdE j f (y + 1) m L ⟨f0, by omega⟩ ⟨hB0, hB1⟩ m1 hB2 ⟨L0, L1⟩
    have HL := Lib.hid (nm_spL a j f (y + 1) m L hE)
    have HE := Lib.hid hE
    have HW : Hid (∀ i : Nat, i < m → (0 ≤ f + (i : Int) * (y + 1) ∧ f + (i : Int) * (y + 1) ≤ 253402300799) ∧ (0 ≤ (i : Int) * (y + 1) ∧ (i : Int) * (y + 1) ≤ 253402300799) ∧ jwE (nmJ j) (f + (i : Int) * (y + 1)) 1 L = 0 ∧ jwV a (nmJ j) (f + (i : Int) * (y + 1)) 1 L = spF a (nmJ j) f (y + 1) L i) := Lib.hid (fun i hi => by
      obtain ⟨h1, h2, h3, h4⟩ := nm_due (i := i) f0 hB0 hB2 (by omega)
      exact ⟨⟨h1, h2⟩, ⟨h3, h4⟩, nm_jwE j _ 1 L ⟨h1, h2⟩ (by omega) ⟨L0, L1⟩, nm_jwV a j _ 1 L ⟨h1, h2⟩ (by omega) ⟨L0, L1⟩⟩)
    clear hE hB2
    obtain ⟨s, hs⟩ : ∃ s, nmJ j = s := ⟨_, rfl⟩
    have HN := Lib.hid hs
    rw [hs] at HE HL HW
    clear hs
    go_enter Tryd.func9, Tryd.ntmps9
    go_wp2_with fail
    go_at_call 24
    refine (named_any j j0 j1 _).mono ?_
    rintro e w1 ⟨rfl, g1⟩
    rw [HN.out]
    go_wp2_with fail
    try rw [hmm]
    try rw [hy]
    try rw [hLL]
    clear hmm hy hLL
    go_at_call 17
    refine (jspread_any a s f (y + 1) m L hu (by omega) (by omega) _ (HT.out.g g1)).mono ?_
    rintro e w2 ⟨v2, rfl, r2, g2⟩
    rw [HE.out]
    rw [HL.out] at r2
    have gA := g1.trans g2
    clear g1 g2
    obtain ⟨A1, q1, rfl, hq1, hm1, hr1⟩ := r2
    simp only [vI_len, List.length_map, List.length_range] at hq1 hr1 ⊢
    have H1 : Hid (∀ k, k < m → ∃ b o, A1 = some ⟨b, o, none⟩ ∧ w2.cell? ⟨b, o + k, none⟩ = some (.int .i64 (spF a s f (y + 1) L k))) := Lib.hid (fun k hk => by
      obtain ⟨b, o, e, h⟩ := hr1 (by omega)
      exact ⟨b, o, e, h k _ (spF_get a s f (y + 1) L hk)⟩)
    clear hr1
    go_wp2_with fail
    go_loopw [65] (fun kv wr => ∃ k : Nat, k ≤ m ∧ kv = .int .i64 k ∧ G w2 wr) (fun kv _ => m - (intOf kv).toNat)
    case atStart => exact ⟨0, by omega, rfl, G.refl _⟩
    case round =>
      obtain ⟨k, hk, rfl, hg⟩ := hrel
      by_cases hlt : k < m
      · have hkm : (k : Int) < m := by omega
        obtain ⟨b, o, rfl, hc⟩ := H1.out k hlt
        have d0 := hg.cell (World.block_lt_of_cell? w2 _ hc) hc
        obtain ⟨⟨t0, t1⟩, ⟨x0, x1⟩, hE1, hV1⟩ := HW.out k hlt
        have HE1 := Lib.hid hE1
        have HV1 := Lib.hid hV1
        have p1 : IntKind.i64.wrap ((k : Int) * (y + 1)) = (k : Int) * (y + 1) := by rw [IntKind.wrap_i64]; omega
        have p2 : IntKind.i64.wrap (f + (k : Int) * (y + 1)) = f + (k : Int) * (y + 1) := by rw [IntKind.wrap_i64]; omega
        clear hc hE1 hV1 x0 x1
        generalize spF a s f (y + 1) L k = X at *
        go_wp2_with fail
        go_at_call 14
        refine (wait_any a s (f + (k : Int) * (y + 1)) 1 L hu (by omega) (by omega) _ (HT.out.g (gA.trans hg))).mono ?_
        rintro e w3 ⟨rfl, g3⟩
        rw [HE1.out, HV1.out]
        clear p1 p2 t0 t1
        go_wp2_with fail
        go_roundw
        case rel => exact ⟨k + 1, by omega, by go_num, hg.trans g3⟩
        case measure => simp [intOf]; omega
      · obtain rfl : k = m := by omega
        go_wp2_with fail
        go_at_call 19
        refine (works_any _ (HT.out.g (gA.trans hg))).mono ?_
        rintro e w8 ⟨rfl, g8⟩
        have gE := (gA.trans hg).trans g8
        go_wp2_with fail
        go_ret
        exact ⟨rfl, gE⟩

set_option maxHeartbeats 2000000 in
theorem contract (H : Type) (enc : TypeId × Value → H) (W : World) (base : Nat) (args : Array Value) (ds gs : List (DataW H)) (before : List MemPlace)
    (hval : ∀ (j : Nat) t v, Tryd.f9.params[j]? = some t → args[j]? = some v → Value.okWide Tryd.prog W .any base t v)
    (hW : DataW.Whole enc Tryd.prog Tryd.f9.params.toList Rows.jitterSpreadSpec.vars false W args.toList ds gs before) (hL : laidMetH Tryd.prog Rows.jitterSpreadRow.laid W) :
    Calls Tryd.prog 9 args W fun e W' => ∃ v, e = .returned v ∧ Rows.jitterSpreadSpec.post enc Tryd.prog Tryd.f9 false true false false W args v W' := by
  have hW' := hW
  obtain ⟨p, q, hA0, hV, rfl, hfz, hnd⟩ := hW
  have hA : DataW.TrodAll enc Tryd.prog W 0 (fun _ => true) true Tryd.f9.params.toList args.toList ds p := hA0
  rw [Tryd.params9] at hA hval
  obtain ⟨v0, vs0, d0, ds0, p0, q0, hargs, rfl, rfl, h0, r0⟩ := trodAll_cons hA
  obtain ⟨v1, vs1, d1, ds1, p1, q1, rfl, rfl, rfl, h1, r1⟩ := trodAll_cons r0
  obtain ⟨v2, vs2, d2, ds2, p2, q2, rfl, rfl, rfl, h2, r2⟩ := trodAll_cons r1
  obtain ⟨v3, vs3, d3, ds3, p3, q3, rfl, rfl, rfl, h3, r3⟩ := trodAll_cons r2
  obtain ⟨v4, vs4, d4, ds4, p4, q4, rfl, rfl, rfl, h4, r4⟩ := trodAll_cons r3
  obtain ⟨v5, vs5, d5, ds5, p5, q5, rfl, rfl, rfl, h5, r5⟩ := trodAll_cons r4
  obtain ⟨rfl, rfl, rfl⟩ := trodAll_nil r5
  obtain rfl : args = #[v0, v1, v2, v3, v4, v5] := by cases args; simp_all
  obtain ⟨a0, rfl, rfl, rfl, w0⟩ := open_int Tryd.underlying22 (hval 0 22 v0 rfl rfl) h0
  simp [Lit.wf, IntKind.min, IntKind.max, IntKind.bits, IntKind.signed] at w0
  obtain ⟨a1, rfl, rfl, rfl, w1⟩ := open_int Tryd.underlying41 (hval 1 41 v1 rfl rfl) h1
  simp [Lit.wf, IntKind.min, IntKind.max, IntKind.bits, IntKind.signed] at w1
  obtain ⟨a2, rfl, rfl, rfl, w2⟩ := open_int Tryd.underlying42 (hval 2 42 v2 rfl rfl) h2
  simp [Lit.wf, IntKind.min, IntKind.max, IntKind.bits, IntKind.signed] at w2
  obtain ⟨a3, rfl, rfl, rfl, w3⟩ := open_int Tryd.underlying42 (hval 3 42 v3 rfl rfl) h3
  simp [Lit.wf, IntKind.min, IntKind.max, IntKind.bits, IntKind.signed] at w3
  obtain ⟨a4, rfl, rfl, rfl, w4⟩ := open_int Tryd.underlying5 (hval 4 5 v4 rfl rfl) h4
  simp [Lit.wf, IntKind.min, IntKind.max, IntKind.bits, IntKind.signed] at w4
  obtain ⟨a5, rfl, rfl, rfl, w5⟩ := open_int Tryd.underlying22 (hval 5 22 v5 rfl rfl) h5
  simp [Lit.wf, IntKind.min, IntKind.max, IntKind.bits, IntKind.signed] at w5
  refine (walk (w := W) a0 (by omega) (by omega) a1 (by omega) (by omega) a2 (by omega) (by omega) a3 (by omega) (by omega) a4 (by omega) (by omega) a5 (by omega) (by omega) (tab_of hL)).mono fun e W' ⟨he, hg⟩ => ?_
  subst he
  exact ⟨_, rfl, law_post laidOut_ (by
    intro t ht
    rw [Tryd.params9] at ht
    simp at ht
    rcases ht with rfl | rfl | rfl | rfl | rfl <;> exact ⟨by kernel_rfl, by decide +kernel⟩) hW' rfl rfl (by kernel_rfl) Tryd.underlying4 hg⟩
theorem laid_met (os : Os) : laidMet Tryd.prog Rows.jitterSpreadRow.laid ((laidWorld os).forCall (fun _ _ => 0) ⟨#[], #[.int .u64 0, .int .u16 0, .int .u32 0, .int .u32 0, .int .u8 0, .int .u64 0], []⟩).memory :=
  laidMet_of_run' 8 (by kernel_rfl) (by kernel_rfl)
theorem reads (os : Os) {H : Type} (enc : TypeId × Value → H) : ∃ places, DataW.whole enc Tryd.prog ((laidWorld os).forCall (fun _ _ => 0) ⟨#[], #[.int .u64 0, .int .u16 0, .int .u32 0, .int .u32 0, .int .u8 0, .int .u64 0], []⟩).memory Tryd.f9.params.toList Rows.jitterSpreadSpec.vars false (#[.int .u64 0, .int .u16 0, .int .u32 0, .int .u32 0, .int .u8 0, .int .u64 0] : Array Value).toList 8 = some ([.lit (.int .u64 0), .lit (.int .u16 0), .lit (.int .u32 0), .lit (.int .u32 0), .lit (.int .u8 0), .lit (.int .u64 0)], [], places) :=
  ⟨[], by kernel_rfl⟩
set_option maxRecDepth 100000 in
theorem lifted (os : Os) (started : os.Started) (H : Type) (enc : TypeId × Value → H) (F : Stop.Interp) :
    ReturnsInHanded {} Tryd.checked os 9 .any ((OpenSpec.ofChange Rows.jitterSpreadSpec).preRow enc Tryd.prog Tryd.f9 Rows.jitterSpreadRow.domain false Rows.jitterSpreadRow.laid) (((OpenSpec.ofChange Rows.jitterSpreadSpec).at F).post enc Tryd.prog Tryd.f9 false true false false) := by
  obtain ⟨places, hx⟩ := reads os enc
  refine returnsInHanded_of_row (C := Tryd.checked) (s := OpenSpec.ofChange Rows.jitterSpreadSpec) own_ started (by kernel_rfl) Tryd.func9
    (witness_row_at (enc := enc) (C := Tryd.checked) false (laidWorld os) #[.int .u64 0, .int .u16 0, .int .u32 0, .int .u32 0, .int .u8 0, .int .u64 0] rfl (by kernel_rfl) (by kernel_rfl) (by kernel_rfl)
      (OpenSpec.preRow_of_cond 8 hx (by kernel_rfl) (fun k hk => by cases hk) (by kernel_rfl) (laid_met os))) ?_
  intro W base args ds gs before hval hW _ _ _ hL _ _
  exact contract H enc W base args ds gs before hval hW hL
theorem said : Rows.JitterSpreadSaid :=
  OpenClaim.holds_of_cond 9 Tryd.f9 rfl rfl rfl rfl rfl rfl rfl ⟨rfl, rfl, rfl, rfl, rfl⟩ rfl rfl rfl rfl rfl (by kernel_rfl) Tryd.func9 (by kernel_rfl)
    (of_decide_eq_true (by kernel_rfl)) (by unfold Func.isWrapper; first | (rw [if_pos (by decide +kernel)]; kernel_rfl) | (rw [if_neg (by decide +kernel)]; exact ⟨rfl, rfl⟩))
    (fun os started H enc _ F => by rw [OpenClaim.pre_eq_preRow]; exact lifted os started H enc F)
theorem plain (f : FuncId) (fn : Func) (hf : Tryd.pinned.checked.prog.funcNamed "wakeman/wakemanlaw29.JitterSpread" = some f) (hfn : Tryd.pinned.checked.prog.funcs[f]? = some fn) :
    false = Tryd.pinned.checked.prog.looks [] ∧ ∀ (j : Nat) t, fn.params[j]? = some t → Tryd.pinned.checked.prog.wantsStandIn t = false := by
  obtain rfl : f = 9 := Option.some.inj ((show Tryd.prog.funcNamed "wakeman/wakemanlaw29.JitterSpread" = some 9 by kernel_rfl).symm.trans hf) |>.symm
  obtain rfl : fn = Tryd.f9 := (Option.some.inj (Tryd.func9.symm.trans hfn)).symm
  refine ⟨by kernel_rfl, fun j t ht => ?_⟩
  rw [Tryd.params9] at ht
  have hm := Array.mem_of_getElem? ht
  simp at hm
  rcases hm with rfl | rfl | rfl | rfl | rfl
  · exact (show Tryd.prog.wantsStandIn 22 = false by kernel_rfl)
  · exact (show Tryd.prog.wantsStandIn 41 = false by kernel_rfl)
  · exact (show Tryd.prog.wantsStandIn 42 = false by kernel_rfl)
  · exact (show Tryd.prog.wantsStandIn 5 = false by kernel_rfl)
  · exact (show Tryd.prog.wantsStandIn 22 = false by kernel_rfl)
theorem card : Rows.JitterSpreadCardSaid :=
  Claim7.holds_tied_plain_at .later [] _ _ _ _ said (fun _ h => by cases h) (by kernel_rfl) (fun _ h => by cases h) jitterSpread_row_tie rfl ⟨rfl, rfl⟩ (by kernel_rfl) rfl plain (by kernel_rfl)
#print axioms card
end Go.Proofs.YtahjiiigpndaeaaDoor.lawJitterSpread
