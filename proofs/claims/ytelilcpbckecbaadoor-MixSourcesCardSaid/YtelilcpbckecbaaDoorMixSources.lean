/-
  MixSources: the numbers of a source, some of which are passed over, are those of the document; also those of a copy.
  Conditions: none beyond the row's own (the table of package mix as the program's text lays it).
-/
import Derived.Test.YtelilcpbckecbaaDoorTie27
import Derived.Test.YtelilcpbckecbaaDoorWorks27
import Derived.Test.YtelilcpbckecbaaDoorRefC
set_option linter.unusedVariables false
set_option linter.unusedSimpArgs false
namespace Go.Proofs.YtelilcpbckecbaaDoor.lawMixSources
open Go.ChangeShapes Go.WideShapes Go.ChangeAt Go.RowKit

/-- what a source of a seed holds at a place, over BitVec -/
def pl (S K : W64) : W64 := S + K * GA
theorem pl_zero (S : W64) : un S = un (pl S 0#64) := by unfold pl; rw [BitVec.zero_mul, BitVec.add_zero]
theorem pl_skip (S K N : W64) : IntKind.u64.wrap (un (pl S K) + IntKind.u64.wrap (un N * 11400714819323198485)) = un (pl S (K + N)) := by
  rw [GA_un, un_wrap_mul, un_wrap_add]; unfold pl; rw [BitVec.add_mul, BitVec.add_assoc]
theorem pl_next (S K : W64) : IntKind.u64.wrap (un (pl S K) + 11400714819323198485) = un (pl S (K + 1#64)) := by
  rw [GA_un, un_wrap_add]; unfold pl; rw [BitVec.add_mul, BitVec.one_mul, BitVec.add_assoc]
theorem pl_at (S K : W64) : atI (un S) (un K) = mixI (un (pl S (K + 1#64))) := by rw [mixI_un]; exact atI_un S K
theorem un_succ (K : W64) : IntKind.u64.wrap (un K + 1) = un (K + 1#64) := by rw [show (1 : Int) = un 1#64 by decide, un_wrap_add]
set_option maxHeartbeats 2000000 in
theorem walk (w : World) (s : Int) (s0 : 0 ≤ s) (s1 : s < 18446744073709551616) (v : Value) (l : List Int) (hR : Rd w v (vI .u64 l)) (hB : ∀ x ∈ l, (Lit.int .u64 x).wf = true) (c : Int) (c0 : 0 ≤ c) (c1 : c ≤ 255) (ht : Tab w) :
    Calls Tryd.prog 7 #[.int .u64 s, v, .int .u8 c] w fun e w' => e = .returned (.bool true) ∧ G w w' := by
  have hz := ht.1
  have HB := Lib.hid hB
  clear hB
  obtain ⟨A, cap, rfl, hcap, hmax, hrd⟩ := hR
  rw [vI_len] at hcap hrd ⊢
  obtain ⟨n, hn⟩ : ∃ n, l.length = n := ⟨_, rfl⟩
  have HN := Lib.hid hn
  rw [hn] at hcap hrd ⊢
  clear hn
  obtain ⟨S, rfl⟩ : ∃ S, s = un S := ⟨bv s, (un_bv s s0 s1).symm⟩
  clear s0 s1
  by_cases hbig : 100 < n
  · go_enter Tryd.func7, Tryd.ntmps7
    go_wp2_with fail
    refine (works_any _ ht).mono ?_
    rintro e w8 ⟨rfl, g8⟩
    go_wp2_with fail
    go_ret
    exact ⟨rfl, g8⟩
  · have HR := Lib.hid hrd
    clear hrd
    go_enter Tryd.func7, Tryd.ntmps7
    go_wp2_with fail
    refine (new_any _ _).mono ?_
    rintro e w1 ⟨rfl, rfl⟩
    have hA := Blk.new w 49 #[.bool true, .int .u64 (un S)]
    have hG := (G.refl w).alloc (.cells #[.bool true, .int .u64 (un S)] 49)
    generalize w.alloc (.cells #[.bool true, .int .u64 (un S)] 49) = W1 at hA hG ⊢
    obtain ⟨a, ha⟩ : ∃ a, a = w.heap.size := ⟨_, rfl⟩
    rw [← ha] at hA ⊢
    have hna : w.heap.size ≤ a := by omega
    clear ha
    have haw := hA.lt
    go_wp2_with fail
    refine (rnew_any _ _).mono ?_
    rintro e w1 ⟨rfl, rfl⟩
    have hC := Blk.new W1 56 #[.bool true, .int .u64 (un S), .int .u64 0]
    have hG := hG.alloc (.cells #[.bool true, .int .u64 (un S), .int .u64 0] 56)
    have hA := hA.alloc (.cells #[.bool true, .int .u64 (un S), .int .u64 0] 56)
    generalize W1.alloc (.cells #[.bool true, .int .u64 (un S), .int .u64 0] 56) = W2 at hA hG hC ⊢
    generalize W1.heap.size = r at hC haw ⊢
    have hnr : w.heap.size ≤ r := by omega
    have har : a ≠ r := by omega
    rw [pl_zero S] at hA
    rw [show (0 : Int) = un 0#64 by decide] at hC
    go_wp2_with fail
    go_loopw [7, 9, 10, 11, 22] (fun sp _ _ _ i wr => ∃ (k a : Nat) (K : W64), k ≤ n ∧ i = .int .i64 k ∧ sp = .pointer (some ⟨a, 0, none⟩) ∧ w.heap.size ≤ a ∧ a ≠ r ∧ G w wr ∧ Blk wr a 49 #[.bool true, .int .u64 (un (pl S K))] ∧ Blk wr r 56 #[.bool true, .int .u64 (un S), .int .u64 (un K)]) (fun _ _ _ _ i _ => n - (intOf i).toNat)
    case atStart => exact ⟨0, a, 0#64, by omega, rfl, rfl, hna, har, hG, hA, hC⟩
    case round =>
      clear hA hC hG har hna haw
      obtain ⟨k, a, K, hk, rfl, rfl, hna, har, hG, hA, hC⟩ := hrel
      have hra : some r ≠ some a := by intro h; cases h; omega
      have hra' : some a ≠ some r := fun h => hra h.symm
      by_cases hlt : k < n
      · obtain ⟨x, hx0, hx1, hxe⟩ : ∃ x : Int, 0 ≤ x ∧ x < 18446744073709551616 ∧ (vI IntKind.u64 l)[k]? = some (.int .u64 x) := by
          have hl : k < l.length := by rw [HN.out]; exact hlt
          have hb := HB.out l[k] (List.getElem_mem hl)
          simp [Lit.wf, IntKind.min, IntKind.max, IntKind.bits, IntKind.signed] at hb
          exact ⟨l[k], hb.1, by omega, by rw [vI_get hl]; simp [hl]⟩
        obtain ⟨b, o, rfl, hc⟩ := HR.out (by omega)
        have hcell := hc k _ hxe
        have hcell := hG.cell (World.block_lt_of_cell? w _ hcell) hcell
        obtain ⟨X, rfl⟩ : ∃ X, x = un X := ⟨bv x, (un_bv x hx0 hx1).symm⟩
        clear hc hxe
        have HX := hx1
        clear hx0 hx1 HX
        by_cases hat : (k : Int) = c
        · have hatb : ((k : Int) == c) = true := by simpa using hat
          have HC := Lib.hid hat
          clear hat
          go_wp2_with fail
          refine (copy_any a _ _ hA).mono ?_
          rintro e y0 ⟨rfl, rfl⟩
          have hA' := Blk.new wr 49 #[.bool true, .int .u64 (un (pl S K))]
          have hB' := hA.alloc (.cells #[.bool true, .int .u64 (un (pl S K))] 49)
          have hC' := hC.alloc (.cells #[.bool true, .int .u64 (un (pl S K))] 49)
          have hG' := hG.alloc (.cells #[.bool true, .int .u64 (un (pl S K))] 49)
          have l1 := hA.lt
          have l2 := hC.lt
          clear hA hC hG hcell
          generalize wr.alloc (.cells #[.bool true, .int .u64 (un (pl S K))] 49) = V at hA' hB' hC' hG' ⊢
          generalize wr.heap.size = a2 at hA' l1 l2 ⊢
          have n1 : some a2 ≠ some a := by intro h; cases h; omega
          go_wp2_with fail
          refine (skip_any a _ _ _ hB').mono ?_
          rintro e z1 ⟨rfl, f5, hB5⟩
          have hA5 := hA'.grown f5 n1
          have hC5 := hC'.grown f5 hra
          have hG5 := hG'.own f5 hna
          go_wp2_with fail
          refine (next_any a _ _ (ht.g hG5) (by omega) hB5).mono ?_
          rintro e z2 ⟨rfl, f6, hB6⟩
          have hA := hA5.grown f6 n1
          have hC := hC5.grown f6 hra
          have hG := hG5.own f6 hna
          clear hA5 hC5 hG5 hA' hB' hC' hG' hB5 hB6 n1 hra hra' har hna l1 f5 f6
          have hna : w.heap.size ≤ a2 := by omega
          have har : a2 ≠ r := by omega
          have hra : some r ≠ some a2 := by intro h; cases h; omega
          have hra' : some a2 ≠ some r := fun h => hra h.symm
          go_wp2_with fail
          refine (skip_any a2 _ _ _ hA).mono ?_
          rintro e y1 ⟨rfl, f1, hA1⟩
          rw [pl_skip] at hA1
          have hC1 := hC.grown f1 hra
          have G1 := hG.own f1 hna
          go_wp2_with fail
          refine (rskip_any r _ _ _ _ hC1).mono ?_
          rintro e y2 ⟨rfl, f2, hC2⟩
          rw [un_wrap_add] at hC2
          have hA2 := hA1.grown f2 hra'
          have G2 := G1.own f2 hnr
          go_wp2_with fail
          refine (next_any a2 _ _ (ht.g G2) (by omega) hA2).mono ?_
          rintro e y3 ⟨rfl, f3, hA3⟩
          rw [pl_next] at hA3 ⊢
          have hC3 := hC2.grown f3 hra
          have G3 := G2.own f3 hna
          go_wp2_with fail
          refine (rnext_any r _ _ _ hC3).mono ?_
          rintro e y4 ⟨rfl, f4, hC4⟩
          rw [un_succ] at hC4
          rw [pl_at]
          have hA4 := hA3.grown f4 hra'
          have G4 := G3.own f4 hnr
          go_wp2_with fail
          go_roundw
          case rel => exact ⟨k + 1, a2, K + X + 1#64, by omega, by go_num, rfl, hna, har, G4, hA4, hC4⟩
          case measure => simp [intOf]; omega
        · have hatb : ((k : Int) == c) = false := by simpa using hat
          clear hat
          go_wp2_with fail
          refine (skip_any a _ _ _ hA).mono ?_
          rintro e y1 ⟨rfl, f1, hA1⟩
          rw [pl_skip] at hA1
          have hC1 := hC.grown f1 hra
          have G1 := hG.own f1 hna
          go_wp2_with fail
          refine (rskip_any r _ _ _ _ hC1).mono ?_
          rintro e y2 ⟨rfl, f2, hC2⟩
          rw [un_wrap_add] at hC2
          have hA2 := hA1.grown f2 hra'
          have G2 := G1.own f2 hnr
          go_wp2_with fail
          refine (next_any a _ _ (ht.g G2) (by omega) hA2).mono ?_
          rintro e y3 ⟨rfl, f3, hA3⟩
          rw [pl_next] at hA3 ⊢
          have hC3 := hC2.grown f3 hra
          have G3 := G2.own f3 hna
          go_wp2_with fail
          refine (rnext_any r _ _ _ hC3).mono ?_
          rintro e y4 ⟨rfl, f4, hC4⟩
          rw [un_succ] at hC4
          rw [pl_at]
          have hA4 := hA3.grown f4 hra'
          have G4 := G3.own f4 hnr
          go_wp2_with fail
          go_roundw
          case rel => exact ⟨k + 1, a, K + X + 1#64, by omega, by go_num, rfl, hna, har, G4, hA4, hC4⟩
          case measure => simp [intOf]; omega
      · go_wp2_with fail
        refine (next_any a _ _ (ht.g hG) (by omega) hA).mono ?_
        rintro e y3 ⟨rfl, f3, hA3⟩
        rw [pl_next]
        have hC3 := hC.grown f3 hra
        have G3 := hG.own f3 hna
        go_wp2_with fail
        refine (rnext_any r _ _ _ hC3).mono ?_
        rintro e y4 ⟨rfl, f4, hC4⟩
        rw [pl_at]
        have G4 := G3.own f4 hnr
        go_wp2_with fail
        refine (works_any _ (ht.g G4)).mono ?_
        rintro e y5 ⟨rfl, f5⟩
        go_wp2_with fail
        go_ret
        exact ⟨rfl, G4.trans f5⟩

theorem contract (H : Type) (enc : TypeId × Value → H) (W : World) (base : Nat) (args : Array Value) (ds gs : List (DataW H)) (before : List MemPlace)
    (hval : ∀ (j : Nat) t v, Tryd.f7.params[j]? = some t → args[j]? = some v → Value.okWide Tryd.prog W .any base t v)
    (hW : DataW.Whole enc Tryd.prog Tryd.f7.params.toList Rows.mixSourcesSpec.vars false W args.toList ds gs before) (hL : laidMetH Tryd.prog Rows.mixSourcesRow.laid W) :
    Calls Tryd.prog 7 args W fun e W' => ∃ v, e = .returned v ∧ Rows.mixSourcesSpec.post enc Tryd.prog Tryd.f7 false true false false W args v W' := by
  have hW' := hW
  obtain ⟨p, q, hA0, hV, rfl, hfz, hnd⟩ := hW
  have hA : DataW.TrodAll enc Tryd.prog W 0 (fun _ => true) true Tryd.f7.params.toList args.toList ds p := hA0
  rw [Tryd.params7] at hA hval
  obtain ⟨v0, vs0, d0, ds0, p0, q0, hargs, rfl, rfl, h0, r0⟩ := trodAll_cons hA
  obtain ⟨v1, vs1, d1, ds1, p1, q1, rfl, rfl, rfl, h1, r1⟩ := trodAll_cons r0
  obtain ⟨v2, vs2, d2, ds2, p2, q2, rfl, rfl, rfl, h2, r2⟩ := trodAll_cons r1
  obtain ⟨rfl, rfl, rfl⟩ := trodAll_nil r2
  obtain rfl : args = #[v0, v1, v2] := by cases args; simp_all
  obtain ⟨a0, rfl, rfl, rfl, w0⟩ := open_int Tryd.underlying22 (hval 0 22 v0 rfl rfl) h0
  simp [Lit.wf, IntKind.min, IntKind.max, IntKind.bits, IntKind.signed] at w0
  obtain ⟨l1, R1, B1⟩ := open_list (k := .u64) Tryd.underlying43 Tryd.underlying22 (by kernel_rfl) (hval 1 43 v1 rfl rfl) h1
  obtain ⟨a2, rfl, rfl, rfl, w2⟩ := open_int Tryd.underlying5 (hval 2 5 v2 rfl rfl) h2
  simp [Lit.wf, IntKind.min, IntKind.max, IntKind.bits, IntKind.signed] at w2
  refine (walk (w := W) a0 (by omega) (by omega) v1 l1 R1 B1 a2 (by omega) (by omega) (tab_of hL)).mono fun e W' ⟨he, hg⟩ => ?_
  subst he
  exact ⟨_, rfl, law_post laidOut_ (by intro t ht; rw [Tryd.params7] at ht; simp at ht; rcases ht with rfl | rfl | rfl <;> exact ⟨by kernel_rfl, by decide +kernel⟩) hW' rfl rfl (by kernel_rfl) Tryd.underlying4 hg⟩
theorem laid_met (os : Os) : laidMet Tryd.prog Rows.mixSourcesRow.laid ((laidWorld os).forCall (fun _ _ => 0) ⟨#[], #[.int .u64 0, .slice none 0 0, .int .u8 0], []⟩).memory :=
  laidMet_of_run' 8 (by kernel_rfl) (by kernel_rfl)
theorem reads (os : Os) {H : Type} (enc : TypeId × Value → H) : ∃ places, DataW.whole enc Tryd.prog ((laidWorld os).forCall (fun _ _ => 0) ⟨#[], #[.int .u64 0, .slice none 0 0, .int .u8 0], []⟩).memory Tryd.f7.params.toList Rows.mixSourcesSpec.vars false (#[.int .u64 0, .slice none 0 0, .int .u8 0] : Array Value).toList 8 = some ([.lit (.int .u64 0), .nil, .lit (.int .u8 0)], [], places) :=
  ⟨[], by kernel_rfl⟩
set_option maxRecDepth 100000 in
theorem lifted (os : Os) (started : os.Started) (H : Type) (enc : TypeId × Value → H) (F : Stop.Interp) :
    ReturnsInHanded {} Tryd.checked os 7 .any ((OpenSpec.ofChange Rows.mixSourcesSpec).preRow enc Tryd.prog Tryd.f7 Rows.mixSourcesRow.domain false Rows.mixSourcesRow.laid) (((OpenSpec.ofChange Rows.mixSourcesSpec).at F).post enc Tryd.prog Tryd.f7 false true false false) := by
  obtain ⟨places, hx⟩ := reads os enc
  refine returnsInHanded_of_row (C := Tryd.checked) (s := OpenSpec.ofChange Rows.mixSourcesSpec) own_ started (by kernel_rfl) Tryd.func7
    (witness_row_at (enc := enc) (C := Tryd.checked) false (laidWorld os) #[.int .u64 0, .slice none 0 0, .int .u8 0] rfl (by kernel_rfl) (by kernel_rfl) (by kernel_rfl)
      (OpenSpec.preRow_of_cond 8 hx (by kernel_rfl) (fun k hk => by cases hk) (by kernel_rfl) (laid_met os))) ?_
  intro W base args ds gs before hval hW _ _ _ hL _ _
  exact contract H enc W base args ds gs before hval hW hL
theorem said : Rows.MixSourcesSaid :=
  OpenClaim.holds_of_cond 7 Tryd.f7 rfl rfl rfl rfl rfl rfl rfl ⟨rfl, rfl, rfl, rfl, rfl⟩ rfl rfl rfl rfl rfl (by kernel_rfl) Tryd.func7 (by kernel_rfl)
    (of_decide_eq_true (by kernel_rfl)) (by unfold Func.isWrapper; first | (rw [if_pos (by decide +kernel)]; kernel_rfl) | (rw [if_neg (by decide +kernel)]; exact ⟨rfl, rfl⟩))
    (fun os started H enc _ F => by rw [OpenClaim.pre_eq_preRow]; exact lifted os started H enc F)
theorem plain (f : FuncId) (fn : Func) (hf : Tryd.pinned.checked.prog.funcNamed "wakeman/wakemanlaw27.MixSources" = some f) (hfn : Tryd.pinned.checked.prog.funcs[f]? = some fn) :
    false = Tryd.pinned.checked.prog.looks [] ∧ ∀ (j : Nat) t, fn.params[j]? = some t → Tryd.pinned.checked.prog.wantsStandIn t = false := by
  obtain rfl : f = 7 := Option.some.inj ((show Tryd.prog.funcNamed "wakeman/wakemanlaw27.MixSources" = some 7 by kernel_rfl).symm.trans hf) |>.symm
  obtain rfl : fn = Tryd.f7 := (Option.some.inj (Tryd.func7.symm.trans hfn)).symm
  refine ⟨by kernel_rfl, fun j t ht => ?_⟩
  rw [Tryd.params7] at ht
  have hm := Array.mem_of_getElem? ht
  simp at hm
  rcases hm with rfl | rfl | rfl
  · exact (show Tryd.prog.wantsStandIn 22 = false by kernel_rfl)
  · exact (show Tryd.prog.wantsStandIn 43 = false by kernel_rfl)
  · exact (show Tryd.prog.wantsStandIn 5 = false by kernel_rfl)
theorem card : Rows.MixSourcesCardSaid :=
  Claim7.holds_tied_plain_at .later [] _ _ _ _ said (fun _ h => by cases h) (by kernel_rfl) (fun _ h => by cases h) mixSources_row_tie rfl ⟨rfl, rfl⟩ (by kernel_rfl) rfl plain (by kernel_rfl)
#print axioms card
end Go.Proofs.YtelilcpbckecbaaDoor.lawMixSources
