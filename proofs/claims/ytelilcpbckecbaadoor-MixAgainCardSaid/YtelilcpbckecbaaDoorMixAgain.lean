/-
  MixAgain: equal sources return equal numbers; a copy goes on alone; passing over n numbers and then m is passing over both together; after 2^64 numbers a sequence begins again.
  Conditions: none beyond the row's own (the table of package mix as the program's text lays it).
-/
import Derived.Test.YtelilcpbckecbaaDoorTie27
import Derived.Test.YtelilcpbckecbaaDoorWorks27
import Derived.Test.YtelilcpbckecbaaDoorAtM
set_option linter.unusedVariables false
set_option linter.unusedSimpArgs false
namespace Go.Proofs.YtelilcpbckecbaaDoor.lawMixAgain
open Go.ChangeShapes Go.WideShapes Go.ChangeAt Go.RowKit

/-- what a source of a seed holds at a place, over BitVec -/
def pl (S K : W64) : W64 := S + K * GA
theorem pl_zero (S : W64) : un S = un (pl S 0#64) := by unfold pl; rw [BitVec.zero_mul, BitVec.add_zero]
theorem pl_skip (S K N : W64) : IntKind.u64.wrap (un (pl S K) + IntKind.u64.wrap (un N * 11400714819323198485)) = un (pl S (K + N)) := by
  rw [GA_un, un_wrap_mul, un_wrap_add]; unfold pl; rw [BitVec.add_mul, BitVec.add_assoc]
theorem pl_next (S K : W64) : IntKind.u64.wrap (un (pl S K) + 11400714819323198485) = un (pl S (K + 1#64)) := by
  rw [GA_un, un_wrap_add]; unfold pl; rw [BitVec.add_mul, BitVec.one_mul, BitVec.add_assoc]
theorem pl_at (S K : W64) : atI (un S) (un K) = un (mixB (pl S (K + 1#64))) := atI_un S K
theorem un_neg (x : W64) : IntKind.u64.wrap (-un x) = un (-x) := by
  have := un_wrap_sub 0#64 x
  rw [show un 0#64 = 0 by decide, Int.zero_sub, BitVec.zero_sub] at this
  exact this
set_option maxHeartbeats 2000000 in
theorem walk (s : Int) (s0 : 0 ≤ s) (s1 : s < 18446744073709551616) (n : Int) (n0 : 0 ≤ n) (n1 : n < 18446744073709551616) (m : Int) (m0 : 0 ≤ m) (m1 : m < 18446744073709551616) (w : World) (ht : Tab w) :
    Calls Tryd.prog 9 #[.int .u64 s, .int .u64 n, .int .u64 m] w fun e w' => e = .returned (.bool true) ∧ G w w' := by
  have hz := ht.1
  obtain ⟨S, rfl⟩ : ∃ S, s = un S := ⟨bv s, (un_bv s s0 s1).symm⟩
  obtain ⟨N, rfl⟩ : ∃ N, n = un N := ⟨bv n, (un_bv n n0 n1).symm⟩
  obtain ⟨M, rfl⟩ : ∃ M, m = un M := ⟨bv m, (un_bv m m0 m1).symm⟩
  have hb := fun x : W64 => un_bd x
  have HB := Lib.hid hb
  clear hb
  go_enter Tryd.func9, Tryd.ntmps9
  go_wp2_with fail
  refine (new_any _ _).mono ?_
  rintro e w1 ⟨rfl, rfl⟩
  have hA := Blk.new w 49 #[.bool true, .int .u64 (un S)]
  go_wp2_with fail
  refine (new_any _ _).mono ?_
  rintro e w2 ⟨rfl, rfl⟩
  have hB := Blk.new (w.alloc (.cells #[.bool true, .int .u64 (un S)] 49)) 49 #[.bool true, .int .u64 (un S)]
  have hA2 := hA.alloc (.cells #[.bool true, .int .u64 (un S)] 49)
  have hG : G w ((w.alloc (.cells #[.bool true, .int .u64 (un S)] 49)).alloc (.cells #[.bool true, .int .u64 (un S)] 49)) := (by repeat (first | exact G.refl _ | refine G.alloc ?_ _ | refine G.drewN ?_ _ | refine G.drew ?_ | refine G.trans ?_ (by assumption)))
  rw [World.size_alloc] at hB
  have hab : w.heap.size < w.heap.size + 1 := by omega
  go_wp2_with fail
  generalize (w.alloc (.cells #[.bool true, .int .u64 (un S)] 49)).alloc (.cells #[.bool true, .int .u64 (un S)] 49) = W2 at hB hA2 hG ⊢
  rw [pl_zero S] at hA2 hB
  generalize w.heap.size + 1 = b at hB hab ⊢
  obtain ⟨a, ha⟩ : ∃ a, a = w.heap.size := ⟨_, rfl⟩
  rw [← ha] at hA2 hab ⊢
  have hna : w.heap.size ≤ a := by omega
  have hnb : w.heap.size ≤ b := by omega
  clear ha hA
  have hne : some a ≠ some b := by intro h; cases h; omega
  have hne' : some b ≠ some a := fun h => hne h.symm
  refine (skip_any a _ _ _ hA2).mono ?_
  rintro e w3 ⟨rfl, g3, hA3⟩
  rw [pl_skip, BitVec.zero_add] at hA3
  have hB3 := hB.grown g3 hne'
  have G3 := hG.own g3 hna
  go_wp2_with fail
  refine (copy_any a _ _ hA3).mono ?_
  rintro e w4 ⟨rfl, rfl⟩
  have hC := Blk.new w3 49 #[.bool true, .int .u64 (un (pl S N))]
  have hA4 := hA3.alloc (.cells #[.bool true, .int .u64 (un (pl S N))] 49)
  have hB4 := hB3.alloc (.cells #[.bool true, .int .u64 (un (pl S N))] 49)
  have G4 := G3.alloc (.cells #[.bool true, .int .u64 (un (pl S N))] 49)
  have hca := hA3.lt
  have hcb := hB3.lt
  generalize w3.alloc (.cells #[.bool true, .int .u64 (un (pl S N))] 49) = W4 at hC hA4 hB4 G4 ⊢
  generalize w3.heap.size = c at hC hca hcb ⊢
  have hnc : w.heap.size ≤ c := by omega
  have hnac : some a ≠ some c := by intro h; cases h; omega
  have hnbc : some b ≠ some c := by intro h; cases h; omega
  have hnca : some c ≠ some a := fun h => hnac h.symm
  have hncb : some c ≠ some b := fun h => hnbc h.symm
  go_wp2_with fail
  refine (skip_any a _ _ _ hA4).mono ?_
  rintro e w5 ⟨rfl, g5, hA5⟩
  rw [pl_skip] at hA5
  have hB5 := hB4.grown g5 hne'
  have hC5 := hC.grown g5 hnca
  have G5 := G4.own g5 hna
  go_wp2_with fail
  rw [un_wrap_add]
  refine (skip_any b _ _ _ hB5).mono ?_
  rintro e w6 ⟨rfl, g6, hB6⟩
  rw [pl_skip, BitVec.zero_add] at hB6
  have hA6 := hA5.grown g6 hne
  have hC6 := hC5.grown g6 hncb
  have G6 := G5.own g6 hnb
  go_wp2_with fail
  refine (next_any a _ _ (ht.g G6) (by omega) hA6).mono ?_
  rintro e w7 ⟨rfl, g7, hA7⟩
  rw [pl_next] at hA7 ⊢
  have hB7 := hB6.grown g7 hne'
  have hC7 := hC6.grown g7 hnca
  have G7 := G6.own g7 hna
  go_wp2_with fail
  refine (next_any b _ _ (ht.g G7) (by omega) hB7).mono ?_
  rintro e w8 ⟨rfl, g8, hB8⟩
  rw [pl_next] at hB8 ⊢
  have hA8 := hA7.grown g8 hne
  have hC8 := hC7.grown g8 hncb
  have G8 := G7.own g8 hnb
  go_wp2_with fail
  refine (next_any c _ _ (ht.g G8) (by omega) hC8).mono ?_
  rintro e w9 ⟨rfl, g9, hC9⟩
  rw [pl_next]
  have hA9 := hA8.grown g9 hnac
  have hB9 := hB8.grown g9 hnbc
  have G9 := G8.own g9 hnc
  go_wp2_with fail
  refine (at_any _ _ (HB.out S).1 (HB.out S).2 (HB.out N).1 (HB.out N).2 _ (ht.g G9)).mono ?_
  rintro e w10 ⟨rfl, g10⟩
  rw [pl_at, ← mixI_un]
  have hA10 := hA9.g g10
  have hB10 := hB9.g g10
  have G10 := G9.trans g10
  go_wp2_with fail
  rw [un_wrap_add, show (1 : Int) = un 1#64 by decide, un_wrap_add, un_neg]
  refine (skip_any b _ _ _ hB10).mono ?_
  rintro e w11 ⟨rfl, g11, hB11⟩
  rw [pl_skip, show N + M + 1#64 + -(N + M + 1#64) = 0#64 from BitVec.add_right_neg _] at hB11
  have hA11 := hA10.grown g11 hne
  have G11 := G10.own g11 hnb
  go_wp2_with fail
  refine (next_any b _ _ (ht.g G11) (by omega) hB11).mono ?_
  rintro e w12 ⟨rfl, g12, hB12⟩
  rw [pl_next]
  have hA12 := hA11.grown g12 hne
  have G12 := G11.own g12 hnb
  go_wp2_with fail
  refine (at_any _ 0 (HB.out S).1 (HB.out S).2 (by decide) (by decide) _ (ht.g G12)).mono ?_
  rintro e w13 ⟨rfl, g13⟩
  rw [show (0 : Int) = un 0#64 by decide, pl_at, ← mixI_un]
  have hA13 := hA12.g g13
  have G13 := G12.trans g13
  go_wp2_with fail
  refine (next_any a _ _ (ht.g G13) (by omega) hA13).mono ?_
  rintro e w14 ⟨rfl, g14, hA14⟩
  rw [pl_next]
  have G14 := G13.own g14 hna
  go_wp2_with fail
  rw [un_wrap_add, show (1 : Int) = un 1#64 by decide, un_wrap_add]
  refine (at_any _ _ (HB.out S).1 (HB.out S).2 (HB.out _).1 (HB.out _).2 _ (ht.g G14)).mono ?_
  rintro e w15 ⟨rfl, g15⟩
  rw [pl_at, ← mixI_un]
  have G15 := G14.trans g15
  go_wp2_with fail
  refine (works_any _ (ht.g G15)).mono ?_
  rintro e w16 ⟨rfl, g16⟩
  go_wp2_with fail
  go_ret
  exact ⟨rfl, G15.trans g16⟩

theorem contract (H : Type) (enc : TypeId × Value → H) (W : World) (base : Nat) (args : Array Value) (ds gs : List (DataW H)) (before : List MemPlace)
    (hval : ∀ (j : Nat) t v, Tryd.f9.params[j]? = some t → args[j]? = some v → Value.okWide Tryd.prog W .any base t v)
    (hW : DataW.Whole enc Tryd.prog Tryd.f9.params.toList Rows.mixAgainSpec.vars false W args.toList ds gs before) (hL : laidMetH Tryd.prog Rows.mixAgainRow.laid W) :
    Calls Tryd.prog 9 args W fun e W' => ∃ v, e = .returned v ∧ Rows.mixAgainSpec.post enc Tryd.prog Tryd.f9 false true false false W args v W' := by
  have hW' := hW
  obtain ⟨p, q, hA0, hV, rfl, hfz, hnd⟩ := hW
  have hA : DataW.TrodAll enc Tryd.prog W 0 (fun _ => true) true Tryd.f9.params.toList args.toList ds p := hA0
  rw [Tryd.params9] at hA hval
  obtain ⟨v0, vs0, d0, ds0, p0, q0, hargs, rfl, rfl, h0, r0⟩ := trodAll_cons hA
  obtain ⟨v1, vs1, d1, ds1, p1, q1, rfl, rfl, rfl, h1, r1⟩ := trodAll_cons r0
  obtain ⟨v2, vs2, d2, ds2, p2, q2, rfl, rfl, rfl, h2, r2⟩ := trodAll_cons r1
  obtain ⟨rfl, rfl, rfl⟩ := trodAll_nil r2
  obtain rfl : args = #[v0, v1, v2] := by cases args; simp_all
  obtain ⟨a0, rfl, rfl, rfl, w0⟩ := open_int Tryd.underlying22 (hval 0 22 v0 rfl rfl) h0
  simp [Lit.wf, IntKind.min, IntKind.max, IntKind.bits, IntKind.signed] at w0
  obtain ⟨a1, rfl, rfl, rfl, w1⟩ := open_int Tryd.underlying22 (hval 1 22 v1 rfl rfl) h1
  simp [Lit.wf, IntKind.min, IntKind.max, IntKind.bits, IntKind.signed] at w1
  obtain ⟨a2, rfl, rfl, rfl, w2⟩ := open_int Tryd.underlying22 (hval 2 22 v2 rfl rfl) h2
  simp [Lit.wf, IntKind.min, IntKind.max, IntKind.bits, IntKind.signed] at w2
  refine (walk a0 (by omega) (by omega) a1 (by omega) (by omega) a2 (by omega) (by omega) W (tab_of hL)).mono fun e W' ⟨he, hg⟩ => ?_
  subst he
  exact ⟨_, rfl, law_post laidOut_ (by intro t ht; rw [Tryd.params9] at ht; simp at ht; rcases ht with rfl <;> exact ⟨by kernel_rfl, by decide +kernel⟩) hW' rfl rfl (by kernel_rfl) Tryd.underlying4 hg⟩
theorem laid_met (os : Os) : laidMet Tryd.prog Rows.mixAgainRow.laid ((laidWorld os).forCall (fun _ _ => 0) ⟨#[], #[.int .u64 0, .int .u64 0, .int .u64 0], []⟩).memory :=
  laidMet_of_run' 8 (by kernel_rfl) (by kernel_rfl)
theorem reads (os : Os) {H : Type} (enc : TypeId × Value → H) : ∃ places, DataW.whole enc Tryd.prog ((laidWorld os).forCall (fun _ _ => 0) ⟨#[], #[.int .u64 0, .int .u64 0, .int .u64 0], []⟩).memory Tryd.f9.params.toList Rows.mixAgainSpec.vars false (#[.int .u64 0, .int .u64 0, .int .u64 0] : Array Value).toList 8 = some ([.lit (.int .u64 0), .lit (.int .u64 0), .lit (.int .u64 0)], [], places) :=
  ⟨[], by kernel_rfl⟩
set_option maxRecDepth 100000 in
theorem lifted (os : Os) (started : os.Started) (H : Type) (enc : TypeId × Value → H) (F : Stop.Interp) :
    ReturnsInHanded {} Tryd.checked os 9 .any ((OpenSpec.ofChange Rows.mixAgainSpec).preRow enc Tryd.prog Tryd.f9 Rows.mixAgainRow.domain false Rows.mixAgainRow.laid) (((OpenSpec.ofChange Rows.mixAgainSpec).at F).post enc Tryd.prog Tryd.f9 false true false false) := by
  obtain ⟨places, hx⟩ := reads os enc
  refine returnsInHanded_of_row (C := Tryd.checked) (s := OpenSpec.ofChange Rows.mixAgainSpec) own_ started (by kernel_rfl) Tryd.func9
    (witness_row_at (enc := enc) (C := Tryd.checked) false (laidWorld os) #[.int .u64 0, .int .u64 0, .int .u64 0] rfl (by kernel_rfl) (by kernel_rfl) (by kernel_rfl)
      (OpenSpec.preRow_of_cond 8 hx (by kernel_rfl) (fun k hk => by cases hk) (by kernel_rfl) (laid_met os))) ?_
  intro W base args ds gs before hval hW _ _ _ hL _ _
  exact contract H enc W base args ds gs before hval hW hL
theorem said : Rows.MixAgainSaid :=
  OpenClaim.holds_of_cond 9 Tryd.f9 rfl rfl rfl rfl rfl rfl rfl ⟨rfl, rfl, rfl, rfl, rfl⟩ rfl rfl rfl rfl rfl (by kernel_rfl) Tryd.func9 (by kernel_rfl)
    (of_decide_eq_true (by kernel_rfl)) (by unfold Func.isWrapper; first | (rw [if_pos (by decide +kernel)]; kernel_rfl) | (rw [if_neg (by decide +kernel)]; exact ⟨rfl, rfl⟩))
    (fun os started H enc _ F => by rw [OpenClaim.pre_eq_preRow]; exact lifted os started H enc F)
theorem plain (f : FuncId) (fn : Func) (hf : Tryd.pinned.checked.prog.funcNamed "wakeman/wakemanlaw27.MixAgain" = some f) (hfn : Tryd.pinned.checked.prog.funcs[f]? = some fn) :
    false = Tryd.pinned.checked.prog.looks [] ∧ ∀ (j : Nat) t, fn.params[j]? = some t → Tryd.pinned.checked.prog.wantsStandIn t = false := by
  obtain rfl : f = 9 := Option.some.inj ((show Tryd.prog.funcNamed "wakeman/wakemanlaw27.MixAgain" = some 9 by kernel_rfl).symm.trans hf) |>.symm
  obtain rfl : fn = Tryd.f9 := (Option.some.inj (Tryd.func9.symm.trans hfn)).symm
  refine ⟨by kernel_rfl, fun j t ht => ?_⟩
  rw [Tryd.params9] at ht
  have hm := Array.mem_of_getElem? ht
  simp at hm
  rcases hm with rfl
  · exact (show Tryd.prog.wantsStandIn 22 = false by kernel_rfl)
theorem card : Rows.MixAgainCardSaid :=
  Claim7.holds_tied_plain_at .later [] _ _ _ _ said (fun _ h => by cases h) (by kernel_rfl) (fun _ h => by cases h) mixAgain_row_tie rfl ⟨rfl, rfl⟩ (by kernel_rfl) rfl plain (by kernel_rfl)
#print axioms card
end Go.Proofs.YtelilcpbckecbaaDoor.lawMixAgain
