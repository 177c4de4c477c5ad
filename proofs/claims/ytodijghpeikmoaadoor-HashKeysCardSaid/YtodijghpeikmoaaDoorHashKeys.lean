/-
  HashKeys: the key of an attempt goes on with the seed, the due time and the attempt; each further one has another key.
  Conditions: none beyond the row's own (the table of package mix as the program's text lays it).
-/
import Derived.Test.YtodijghpeikmoaaDoorTieM
import Derived.Test.YtodijghpeikmoaaDoorHsX
set_option linter.unusedVariables false
set_option linter.unusedSimpArgs false
namespace Go.Proofs.YtodijghpeikmoaaDoor.lawHashKeys
open Go.ChangeShapes Go.WideShapes Go.ChangeAt Go.RowKit
theorem hbI_un (H B : W64) : hbI (un H) (un B) = un ((H ^^^ B) * 1099511628211#64) := by
  unfold hbI
  rw [un_xor, show (1099511628211 : Int) = un 1099511628211#64 by decide, un_wrap_mul]
theorem odd_inj (X Y : W64) (h : X * 1099511628211#64 = Y * 1099511628211#64) : X = Y := by
  have h2 := congrArg (fun z => z * 14886173955864302971#64) h
  simp only [BitVec.mul_assoc] at h2
  rw [show (1099511628211#64 * 14886173955864302971#64 : W64) = 1#64 by decide] at h2
  simpa using h2
theorem hbI_inj (h a b : Int) (h0 : 0 ≤ h) (h1 : h < 18446744073709551616) (a0 : 0 ≤ a) (a1 : a < 256) (b0 : 0 ≤ b) (b1 : b < 256) (e : hbI h a = hbI h b) : a = b := by
  rw [← un_bv h h0 h1, ← un_bv a a0 (by omega), ← un_bv b b0 (by omega), hbI_un, hbI_un] at e
  have e2 := odd_inj _ _ (un_inj e)
  have e3 : bv a = bv b := by
    have := congrArg (fun z => bv h ^^^ z) e2
    simpa [← BitVec.xor_assoc] using this
  rw [← un_bv a a0 (by omega), ← un_bv b b0 (by omega), e3]
/-- a step takes no two hashes to one -/
theorem hbI_inj2 (h k b : Int) (h0 : u64 h) (k0 : u64 k) (b0 : 0 ≤ b) (b1 : b < 256) (e : hbI h b = hbI k b) : h = k := by
  rw [← un_bv h h0.1 h0.2, ← un_bv k k0.1 k0.2, ← un_bv b b0 (by omega), hbI_un, hbI_un] at e
  have e2 := odd_inj _ _ (un_inj e)
  have e3 : bv h = bv k := by
    have := congrArg (fun z => z ^^^ bv b) e2
    simpa [BitVec.xor_assoc] using this
  rw [← un_bv h h0.1 h0.2, ← un_bv k k0.1 k0.2, e3]
theorem hS_inj (l : List Int) (hl : ∀ x ∈ l, 0 ≤ x ∧ x < 256) (h k : Int) (h0 : u64 h) (k0 : u64 k) (e : hS h l = hS k l) : h = k := by
  induction l generalizing h k with
  | nil => exact e
  | cons b l ih =>
    have hb := hl b (by simp)
    exact hbI_inj2 h k b h0 k0 hb.1 hb.2 (ih (fun x hx => hl x (by simp [hx])) _ _ (hbI_bd h b) (hbI_bd k b) e)
theorem nbs_small (t : Int) (t0 : 0 ≤ t) (t1 : t < 256) : nbs t = t :: [0, 0, 0, 0, 0, 0, 0] := by
  have hz : ∀ i : Nat, 1 ≤ i → i < 8 → nbI t i = 0 := by
    intro i hi hi2
    unfold nbI
    rw [IntKind.wrap_u64, Int.emod_eq_of_lt t0 (by omega)]
    have hp : (256 : Int) ≤ 2 ^ (8 * i) := by
      match i, hi, hi2 with
      | 1, _, _ => decide
      | 2, _, _ => decide
      | 3, _, _ => decide
      | 4, _, _ => decide
      | 5, _, _ => decide
      | 6, _, _ => decide
      | 7, _, _ => decide
    rw [Int.ediv_eq_zero_of_lt t0 (by omega)]
    rfl
  have h0 : nbI t 0 = t := by
    unfold nbI
    rw [IntKind.wrap_u64]
    simp
    omega
  show [nbI t 0, nbI t 1, nbI t 2, nbI t 3, nbI t 4, nbI t 5, nbI t 6, nbI t 7] = _
  rw [h0, hz 1 (by decide) (by decide), hz 2 (by decide) (by decide), hz 3 (by decide) (by decide), hz 4 (by decide) (by decide), hz 5 (by decide) (by decide), hz 6 (by decide) (by decide), hz 7 (by decide) (by decide)]
theorem hS_cons (h b : Int) (l : List Int) : hS h (b :: l) = hS (hbI h b) l := rfl
theorem zeros_b : ∀ x ∈ ([0, 0, 0, 0, 0, 0, 0] : List Int), 0 ≤ x ∧ x < 256 := by decide
theorem hN_inj (X t u : Int) (hX : u64 X) (t0 : 0 ≤ t) (t1 : t < 256) (u0 : 0 ≤ u) (u1 : u < 256) (e : hN X t = hN X u) : t = u := by
  unfold hN at e
  rw [nbs_small t t0 t1, nbs_small u u0 u1] at e
  rw [hS_cons X t, hS_cons X u] at e
  have q1 : u64 (hbI X t) := hbI_bd X t
  have q2 : u64 (hbI X u) := hbI_bd X u
  have e2 := hS_inj [0, 0, 0, 0, 0, 0, 0] zeros_b (hbI X t) (hbI X u) q1 q2 e
  exact hbI_inj X t u hX.1 hX.2 t0 t1 u0 u1 e2
theorem keyI_ne (a : Int) (s : ByteArray) (d t : Int) (t0 : 0 ≤ t) (t1 : t + 1 < 256) : ¬ keyI a s d (t + 1) = keyI a s d t := by
  intro e
  unfold keyI at e
  have := hN_inj _ (t + 1) t (hN_bd (hN_bd (sumS_bd s) _) _) (by omega) t1 t0 (by omega) e
  omega
set_option maxHeartbeats 4000000 in
theorem walk (w : World) (a : Int) (a0 : 0 ≤ a) (a1 : a ≤ 18446744073709551615) (s : ByteArray) (hsm : s.size ≤ 9223372036854775807) (d : Int) (d0 : -9223372036854775808 ≤ d) (d1 : d ≤ 9223372036854775807) (t : Int) (t0 : 0 ≤ t) (t1 : t ≤ 255) (ht : Tab w) :
    Calls Tryd.prog 12 #[.int .u64 a, .string s, .int .i64 d, .int .u8 t] w fun e w' => e = .returned (.bool true) ∧ G w w' := by
  have HT := Lib.hid ht
  have hu : u64 a := ⟨a0, by omega⟩
  clear ht
  by_cases hbig : 100 < s.size
  · go_enter Tryd.func12, Tryd.ntmps12
    go_wp2_with fail
    go_at_call 13
    refine (works_any _ HT.out).mono ?_
    rintro e w8 ⟨rfl, g8⟩
    go_wp2_with fail
    go_ret
    exact ⟨rfl, (by repeat (first | exact G.refl _ | refine G.alloc ?_ _ | refine G.drewN ?_ _ | refine G.drew ?_ | refine G.trans ?_ (by assumption)))⟩
  · have hs1 : s.size ≤ 100 := by omega
    have hs2 : s.size < 9223372036854775807 := by omega
    have hw : -9223372036854775808 ≤ wrap64 a ∧ wrap64 a ≤ 9223372036854775807 := by unfold wrap64; omega
    have hwr : IntKind.i64.wrap a = wrap64 a := by rw [IntKind.wrap_i64]; unfold wrap64; omega
    have HK : Hid (hN (hN (hN (sumS s) (wrap64 a)) d) t = keyI a s d t) := Lib.hid rfl
    have HNE : Hid (t + 1 < 256 → (keyI a s d (t + 1) == keyI a s d t) = false ∧ (keyI a s d (t + 1) = keyI a s d t) = False) := Lib.hid (fun h => ⟨by simpa using keyI_ne a s d t t0 h, by simpa using keyI_ne a s d t t0 h⟩)
    have ht4 : t ≤ 9223372036854775807 := by omega
    have ht5 : -9223372036854775808 ≤ t := by omega
    have ht6 : -9223372036854775808 ≤ t + 1 := by omega
    have ht7 : t + 1 ≤ 9223372036854775807 := by omega
    clear hbig hsm
    go_enter Tryd.func12, Tryd.ntmps12
    go_wp2_with fail
    go_at_call 28
    refine (key_any a s d t hu hs2 d0 d1 ht5 ht4 _).mono ?_
    rintro e w1 ⟨rfl, g1⟩
    go_wp2_with fail
    go_at_call 21
    refine (sum_any s hs2 _).mono ?_
    rintro e w2 ⟨rfl, g2⟩
    go_wp2_with fail
    go_at_call 22
    refine (num_any _ _ (sumS_bd s) hw.1 hw.2 _).mono ?_
    rintro e w3 ⟨rfl, g3⟩
    go_wp2_with fail
    go_at_call 22
    refine (num_any _ _ (hN_bd (sumS_bd s) _) d0 d1 _).mono ?_
    rintro e w4 ⟨rfl, g4⟩
    go_wp2_with fail
    go_at_call 22
    refine (num_any _ _ (hN_bd (hN_bd (sumS_bd s) _) _) ht5 ht4 _).mono ?_
    rintro e w5 ⟨rfl, g5⟩
    rw [HK.out]
    have gA := (((g1.trans g2).trans g3).trans g4).trans g5
    clear g1 g2 g3 g4 g5 hwr hw
    by_cases h255 : t = 255
    · subst h255
      clear HNE
      go_wp2_with fail
      go_at_call 13
      refine (works_any _ (HT.out.g gA)).mono ?_
      rintro e w8 ⟨rfl, g8⟩
      have gE := gA.trans g8
      clear gA g8
      go_wp2_with fail
      go_ret
      exact ⟨rfl, gE⟩
    · have h254 : t ≤ 254 := by omega
      obtain ⟨n1, n2⟩ := HNE.out (by omega)
      have N1 := Lib.hid n1
      have N2 := Lib.hid n2
      clear n1 n2
      go_wp2_with fail
      go_at_call 28
      refine (key_any a s d (t + 1) hu hs2 d0 d1 ht6 ht7 _).mono ?_
      rintro e w6 ⟨rfl, g6⟩
      have gB := gA.trans g6
      clear gA g6
      have n1 := N1.out
      have n2 := N2.out
      generalize keyI a s d (t + 1) = k1 at *
      generalize keyI a s d t = k0 at *
      have nb : (k1 != k0) = true := by simp [bne, n1]
      have hb5 : (t == 255) = false := by simpa using h255
      clear n1
      go_wp2_with fail
      go_at_call 13
      refine (works_any _ (HT.out.g gB)).mono ?_
      rintro e w8 ⟨rfl, g8⟩
      have gE := gB.trans g8
      clear gB g8
      go_wp2_with fail
      go_ret
      exact ⟨rfl, gE⟩

set_option maxHeartbeats 2000000 in
theorem contract (H : Type) (enc : TypeId × Value → H) (W : World) (base : Nat) (args : Array Value) (ds gs : List (DataW H)) (before : List MemPlace)
    (hval : ∀ (j : Nat) t v, Tryd.f12.params[j]? = some t → args[j]? = some v → Value.okWide Tryd.prog W .any base t v)
    (hW : DataW.Whole enc Tryd.prog Tryd.f12.params.toList Rows.hashKeysSpec.vars false W args.toList ds gs before) (hL : laidMetH Tryd.prog Rows.hashKeysRow.laid W) :
    Calls Tryd.prog 12 args W fun e W' => ∃ v, e = .returned v ∧ Rows.hashKeysSpec.post enc Tryd.prog Tryd.f12 false true false false W args v W' := by
  have hW' := hW
  obtain ⟨p, q, hA0, hV, rfl, hfz, hnd⟩ := hW
  have hA : DataW.TrodAll enc Tryd.prog W 0 (fun _ => true) true Tryd.f12.params.toList args.toList ds p := hA0
  rw [Tryd.params12] at hA hval
  obtain ⟨v0, vs0, d0, ds0, p0, q0, hargs, rfl, rfl, h0, r0⟩ := trodAll_cons hA
  obtain ⟨v1, vs1, d1, ds1, p1, q1, rfl, rfl, rfl, h1, r1⟩ := trodAll_cons r0
  obtain ⟨v2, vs2, d2, ds2, p2, q2, rfl, rfl, rfl, h2, r2⟩ := trodAll_cons r1
  obtain ⟨v3, vs3, d3, ds3, p3, q3, rfl, rfl, rfl, h3, r3⟩ := trodAll_cons r2
  obtain ⟨rfl, rfl, rfl⟩ := trodAll_nil r3
  obtain rfl : args = #[v0, v1, v2, v3] := by cases args; simp_all
  obtain ⟨a0, rfl, rfl, rfl, w0⟩ := open_int Tryd.underlying23 (hval 0 23 v0 rfl rfl) h0
  simp [Lit.wf, IntKind.min, IntKind.max, IntKind.bits, IntKind.signed] at w0
  obtain ⟨a1, rfl, rfl, rfl, w1⟩ := open_string Tryd.underlying9 (hval 1 9 v1 rfl rfl) h1
  obtain ⟨a2, rfl, rfl, rfl, w2⟩ := open_int Tryd.underlying2 (hval 2 2 v2 rfl rfl) h2
  simp [Lit.wf, IntKind.min, IntKind.max, IntKind.bits, IntKind.signed] at w2
  obtain ⟨a3, rfl, rfl, rfl, w3⟩ := open_int Tryd.underlying5 (hval 3 5 v3 rfl rfl) h3
  simp [Lit.wf, IntKind.min, IntKind.max, IntKind.bits, IntKind.signed] at w3
  refine (walk (w := W) a0 (by omega) (by omega) a1 w1 a2 (by omega) (by omega) a3 (by omega) (by omega) (tab_of hL)).mono fun e W' ⟨he, hg⟩ => ?_
  subst he
  exact ⟨_, rfl, law_post laidOut_ (by
    intro t ht
    rw [Tryd.params12] at ht
    simp at ht
    rcases ht with rfl | rfl | rfl | rfl <;> exact ⟨by kernel_rfl, by decide +kernel⟩) hW' rfl rfl (by kernel_rfl) Tryd.underlying4 hg⟩
theorem laid_met (os : Os) : laidMet Tryd.prog Rows.hashKeysRow.laid ((laidWorld os).forCall (fun _ _ => 0) ⟨#[], #[.int .u64 0, .string ByteArray.empty, .int .i64 0, .int .u8 0], []⟩).memory :=
  laidMet_of_run' 8 (by kernel_rfl) (by kernel_rfl)
theorem reads (os : Os) {H : Type} (enc : TypeId × Value → H) : ∃ places, DataW.whole enc Tryd.prog ((laidWorld os).forCall (fun _ _ => 0) ⟨#[], #[.int .u64 0, .string ByteArray.empty, .int .i64 0, .int .u8 0], []⟩).memory Tryd.f12.params.toList Rows.hashKeysSpec.vars false (#[.int .u64 0, .string ByteArray.empty, .int .i64 0, .int .u8 0] : Array Value).toList 8 = some ([.lit (.int .u64 0), .lit (.string []), .lit (.int .i64 0), .lit (.int .u8 0)], [], places) :=
  ⟨[], by kernel_rfl⟩
set_option maxRecDepth 100000 in
theorem lifted (os : Os) (started : os.Started) (H : Type) (enc : TypeId × Value → H) (F : Stop.Interp) :
    ReturnsInHanded {} Tryd.checked os 12 .any ((OpenSpec.ofChange Rows.hashKeysSpec).preRow enc Tryd.prog Tryd.f12 Rows.hashKeysRow.domain false Rows.hashKeysRow.laid) (((OpenSpec.ofChange Rows.hashKeysSpec).at F).post enc Tryd.prog Tryd.f12 false true false false) := by
  obtain ⟨places, hx⟩ := reads os enc
  refine returnsInHanded_of_row (C := Tryd.checked) (s := OpenSpec.ofChange Rows.hashKeysSpec) own_ started (by kernel_rfl) Tryd.func12
    (witness_row_at (enc := enc) (C := Tryd.checked) false (laidWorld os) #[.int .u64 0, .string ByteArray.empty, .int .i64 0, .int .u8 0] rfl (by kernel_rfl) (by kernel_rfl) (by kernel_rfl)
      (OpenSpec.preRow_of_cond 8 hx (by kernel_rfl) (fun k hk => by cases hk) (by kernel_rfl) (laid_met os))) ?_
  intro W base args ds gs before hval hW _ _ _ hL _ _
  exact contract H enc W base args ds gs before hval hW hL
theorem said : Rows.HashKeysSaid :=
  OpenClaim.holds_of_cond 12 Tryd.f12 rfl rfl rfl rfl rfl rfl rfl ⟨rfl, rfl, rfl, rfl, rfl⟩ rfl rfl rfl rfl rfl (by kernel_rfl) Tryd.func12 (by kernel_rfl)
    (of_decide_eq_true (by kernel_rfl)) (by unfold Func.isWrapper; first | (rw [if_pos (by decide +kernel)]; kernel_rfl) | (rw [if_neg (by decide +kernel)]; exact ⟨rfl, rfl⟩))
    (fun os started H enc _ F => by rw [OpenClaim.pre_eq_preRow]; exact lifted os started H enc F)
theorem plain (f : FuncId) (fn : Func) (hf : Tryd.pinned.checked.prog.funcNamed "wakeman/wakemanlaw28.HashKeys" = some f) (hfn : Tryd.pinned.checked.prog.funcs[f]? = some fn) :
    false = Tryd.pinned.checked.prog.looks [] ∧ ∀ (j : Nat) t, fn.params[j]? = some t → Tryd.pinned.checked.prog.wantsStandIn t = false := by
  obtain rfl : f = 12 := Option.some.inj ((show Tryd.prog.funcNamed "wakeman/wakemanlaw28.HashKeys" = some 12 by kernel_rfl).symm.trans hf) |>.symm
  obtain rfl : fn = Tryd.f12 := (Option.some.inj (Tryd.func12.symm.trans hfn)).symm
  refine ⟨by kernel_rfl, fun j t ht => ?_⟩
  rw [Tryd.params12] at ht
  have hm := Array.mem_of_getElem? ht
  simp at hm
  rcases hm with rfl | rfl | rfl | rfl
  · exact (show Tryd.prog.wantsStandIn 23 = false by kernel_rfl)
  · exact (show Tryd.prog.wantsStandIn 9 = false by kernel_rfl)
  · exact (show Tryd.prog.wantsStandIn 2 = false by kernel_rfl)
  · exact (show Tryd.prog.wantsStandIn 5 = false by kernel_rfl)
theorem card : Rows.HashKeysCardSaid :=
  Claim7.holds_tied_plain_at .later [] _ _ _ _ said (fun _ h => by cases h) (by kernel_rfl) (fun _ h => by cases h) hashKeys_row_tie rfl ⟨rfl, rfl⟩ (by kernel_rfl) rfl plain (by kernel_rfl)
#print axioms card
end Go.Proofs.YtodijghpeikmoaaDoor.lawHashKeys
