/-
  MixPerm: a permutation has each number once; exchanging the elements back, in the opposite order, leads to the list 0, 1, 2 and so on.
  Conditions: none beyond the row's own (the table of package mix as the program's text lays it).
-/
import Derived.Test.YtelilcpbckecbaaDoorTie27
import Derived.Test.YtelilcpbckecbaaDoorWorks27
import Derived.Test.YtelilcpbckecbaaDoorPermP
import Derived.BigRegion
import Derived.Deep.DeepCutAuto
set_option linter.unusedVariables false
set_option linter.unusedSimpArgs false
namespace Go.Proofs.YtelilcpbckecbaaDoor.lawMixPerm
open Go.ChangeShapes Go.WideShapes Go.ChangeAt Go.RowKit

theorem make_bools (n : Nat) (hn : n ≤ 1000000) (W : World) :
    (Instr.makeSlice 36 (.int .i64 (n : Int)) (.int .i64 (n : Int))).run Tryd.prog W = .ok (.slice (some ⟨W.heap.size, 0, none⟩) n n) (W.alloc (.cells (Array.replicate n (.bool false)) 4)) := by
  have hi : (Tryd.prog.info? 4).map (fun i => (i.zero, i.size, i.bytes)) = some (some (.bool false), 1, 1) := by kernel_rfl
  obtain ⟨i0, hi, hz0, hz1, hz2⟩ := info_parts hi
  have h := run_make (P := Tryd.prog) W 36 4 i0 (.bool false) Tryd.underlying36 hi hz0 .i64 .i64 n n (by omega) (Int.le_refl _) (by rw [hz2]; omega) (by omega)
  simp only [Int.toNat_natCast] at h
  rw [h, hz1, show (Value.bool false).cells = #[Value.bool false] from rfl, madeCells_one]
set_option maxHeartbeats 2000000 in
theorem walk (s : Int) (s0 : 0 ≤ s) (s1 : s < 18446744073709551616) (c : Int) (c0 : 0 ≤ c) (c1 : c ≤ 65535) (w : World) (ht : Tab w) :
    Calls Tryd.prog 5 #[.int .u64 s, .int .u16 c] w fun e w' => e = .returned (.bool true) ∧ G w w' := by
  have hz := ht.1
  obtain ⟨n, hn⟩ : ∃ n : Nat, c % 257 = n := ⟨(c % 257).toNat, by omega⟩
  have hn2 : n ≤ 256 := by omega
  have HN := Lib.hid hn
  clear hn
  have hmk := fun W => make_bools n (by omega) W
  have HO := Lib.hid (once_perm s n (n - 1) (by omega))
  go_enter Tryd.func5, Tryd.ntmps5
  go_wp2_with fail
  rw [HN.out]
  refine (perm_any s n s0 s1 hn2 _ ht).mono ?_
  rintro e w1 ⟨rfl, hg1, hb1⟩
  generalize hL : permTo s n (n - 1) = L at hb1 HO
  have HL := Lib.hid hL
  clear hL
  go_wp2_with fail
  have hlt := hb1.lt
  have hg2 := hg1.alloc (.cells (Array.replicate n (.bool false)) 4)
  have hb2 := hb1.alloc (.cells (Array.replicate n (.bool false)) 4)
  have hs2 := Blk.new w1 4 (Array.replicate n (.bool false))
  generalize w1.alloc (.cells (Array.replicate n (.bool false)) 4) = W2 at hg2 hb2 hs2 ⊢
  generalize w1.heap.size = kB at hs2 hlt ⊢
  clear hmk hb1
  have hll : L.length = n := HO.out.1
  have HLL := Lib.hid hll
  clear hll
  go_loopw [37] (fun i wr => ∃ k : Nat, k ≤ n ∧ i = .int .i64 k ∧ G w wr ∧ Blk wr w.heap.size 3 (vI .i64 L).toArray ∧ Blk wr kB 4 (vB (seenTo L n k)).toArray) (fun i _ => n - (intOf i).toNat)
  case atStart => exact ⟨0, by omega, rfl, hg2, hb2, by rw [← seen_zero]; exact hs2⟩
  case round =>
    obtain ⟨k, hk, rfl, hg, hb, hs⟩ := hrel
    clear hg2 hb2 hs2
    by_cases hlt2 : k < n
    · have hr := HO.out.2.1 k hlt2
      obtain ⟨v, hv⟩ : ∃ v : Nat, at_ L k = v := ⟨(at_ L k).toNat, by omega⟩
      have hvn : v < n := by omega
      have d0 : wr.cell? ⟨w.heap.size, k, none⟩ = some (.int .i64 v) := by rw [← hv]; exact cellI hb (by rw [HLL.out]; exact hlt2)
      have d1 : wr.cell? ⟨kB, v, none⟩ = some (.bool false) := by rw [← seen_no HO.out k v hlt2 hv]; exact cellB hs (by rw [seenTo_len]; exact hvn)
      have d2 := hs.frozen v
      have hs' := hs.set_ v (.bool true)
      rw [vB_set, seen_set HO.out k v hlt2 hv] at hs'
      have HV := Lib.hid hv
      clear hv hr
      go_wp2
      go_roundw
      case rel => exact ⟨k + 1, by omega, by go_num, hg.setCell (by simp; omega) _, hb.far (by simp; omega) _, hs'⟩
      case measure => simp [intOf]; omega
    · clear hs
      obtain ⟨wo, rfl⟩ : ∃ wo : World, wo = wr := ⟨_, rfl⟩
      rw [← HL.out] at hb
      go_wp2_with fail
      go_loopw [11] (fun i wr => ∃ k : Nat, 1 ≤ k ∧ k ≤ max n 1 ∧ i = .int .i64 k ∧ G w wr ∧ Blk wr w.heap.size 3 (vI .i64 (permTo s n (n - k))).toArray) (fun i _ => n - (intOf i).toNat)
      case atStart => exact ⟨1, by omega, by omega, rfl, hg, hb⟩
      case round =>
        obtain ⟨i, hi1, hi2, rfl, hg3, hb3⟩ := hrel
        by_cases hin : i < n
        · obtain ⟨t, htn⟩ : ∃ t : Nat, n - i = t + 1 := ⟨n - 1 - i, by omega⟩
          have ht1 : (n : Int) - 1 - i = (t : Nat) := by omega
          have ht2 : i = n - 1 - t := by omega
          have ht3 : t + 1 < n := by omega
          have ht4 : n - (i + 1) = t := by omega
          have hjl := jAt_lt s n t (by omega)
          have hj : hiI (atI s t) ((i : Int) + 1) = (jAt s n t : Int) := by
            have hb := hiI_bd (atI s t) ((i : Int) + 1) (atI_bd _ _).1 (atI_bd _ _).2 (by omega)
            have e : ((n - 1 - t : Nat) : Int) = (i : Int) := by omega
            unfold jAt; rw [e]; exact (Int.toNat_of_nonneg hb.1).symm
          have hback := perm_back s n t ht3
          rw [← ht2] at hback hjl
          have hlen := permTo_len s n (t + 1)
          rw [htn] at hb3
          generalize permTo s n (t + 1) = M at hb3 hback hlen
          generalize jAt s n t = j at hj hback hjl
          have HT1 := Lib.hid ht1
          have HT4 := Lib.hid ht4
          have HJ := Lib.hid hj
          have HBk := Lib.hid hback
          have HLen := Lib.hid hlen
          clear ht1 ht2 ht4 htn hj hback hlen
          go_wp2_with fail
          rw [HT1.out]
          refine (at_any s t s0 s1 (by omega) (by omega) _ (ht.g hg3)).mono ?_
          rintro e w4 ⟨rfl, g4⟩
          have hg4 := hg3.trans g4
          have hb4 := hb3.g g4
          go_wp2_with fail
          refine (below_any (atI s t) ((i : Int) + 1) (atI_bd _ _).1 (atI_bd _ _).2 (by omega) (by omega) _).mono ?_
          rintro e w5 ⟨rfl, rfl⟩
          rw [HJ.out]
          have hjk : j < n := by omega
          go_wp2_with fail
          have hiL : i < M.length := by have := HLen.out; omega
          have hjL : j < M.length := by have := HLen.out; omega
          have c1 := cellI hb4 hiL
          have c2 := cellI hb4 hjL
          have q1 := hb4.frozen i
          have q2 := hb4.frozen j
          have HW : Hid (swapL M i j = (M.set i (M[j]?.getD 0)).set j (M[i]?.getD 0)) := rfl
          generalize M[i]?.getD 0 = x at c1 HW
          generalize M[j]?.getD 0 = y at c2 HW
          have hb5 := hb4.set_ i (.int .i64 y)
          rw [vI_set] at hb5
          have c3 := cellI (i := j) hb5 (by rw [List.length_set]; exact hjL)
          generalize (M.set i y)[j]?.getD 0 = z at c3
          have hb6 := hb5.set_ j (.int .i64 x)
          rw [vI_set, ← HW.out, HBk.out] at hb6
          clear hiL hjL
          refine wp_then ?_
          go_cut [] from 85 to 98 (fun wx => G w wx ∧ Blk wx w.heap.size 3 (vI .i64 (permTo s n t)).toArray)
          case first =>
            as_aux_lemma =>
              go_region
              all_goals (go_wp2_with fail; go_meet; exact ⟨((hg4.setCell (by simp) _).setCell (by simp) _).drew, hb6⟩)
          case rest =>
            obtain ⟨hg5, hb7⟩ := hcut
            go_wp2_with fail
            go_roundw
            case rel => exact ⟨i + 1, by omega, by omega, by go_num, hg5, by rw [HT4.out]; exact hb7⟩
            case measure => simp [intOf]; omega
        · have hb4 : Blk wr w.heap.size 3 (vI .i64 (cntTo n n)).toArray := by
            have e : n - i = 0 := by omega
            rw [e] at hb3
            exact hb3
          clear hb3
          obtain ⟨wp_, rfl⟩ : ∃ wp_ : World, wp_ = wr := ⟨_, rfl⟩
          go_wp2_with fail
          go_loopw [101] (fun i wr => ∃ k : Nat, k ≤ n ∧ i = .int .i64 k ∧ G w wr ∧ Blk wr w.heap.size 3 (vI .i64 (cntTo n n)).toArray) (fun i _ => n - (intOf i).toNat)
          case atStart => exact ⟨0, by omega, rfl, hg3, hb4⟩
          case round =>
            obtain ⟨k, hk, rfl, hg5, hb5⟩ := hrel
            by_cases hkn : k < n
            · have d0 : wr.cell? ⟨w.heap.size, k, none⟩ = some (.int .i64 k) := by rw [← at_cnt n k hkn]; exact cellI hb5 (by rw [cntTo_len]; exact hkn)
              go_wp2
              go_roundw
              case rel => exact ⟨k + 1, by omega, by go_num, hg5, hb5⟩
              case measure => simp [intOf]; omega
            · go_wp2_with fail
              refine (works_any _ (ht.g hg5)).mono ?_
              rintro e w9 ⟨rfl, g9⟩
              go_wp2_with fail
              go_ret
              exact ⟨rfl, hg5.trans g9⟩

theorem contract (H : Type) (enc : TypeId × Value → H) (W : World) (base : Nat) (args : Array Value) (ds gs : List (DataW H)) (before : List MemPlace)
    (hval : ∀ (j : Nat) t v, Tryd.f5.params[j]? = some t → args[j]? = some v → Value.okWide Tryd.prog W .any base t v)
    (hW : DataW.Whole enc Tryd.prog Tryd.f5.params.toList Rows.mixPermSpec.vars false W args.toList ds gs before) (hL : laidMetH Tryd.prog Rows.mixPermRow.laid W) :
    Calls Tryd.prog 5 args W fun e W' => ∃ v, e = .returned v ∧ Rows.mixPermSpec.post enc Tryd.prog Tryd.f5 false true false false W args v W' := by
  have hW' := hW
  obtain ⟨p, q, hA0, hV, rfl, hfz, hnd⟩ := hW
  have hA : DataW.TrodAll enc Tryd.prog W 0 (fun _ => true) true Tryd.f5.params.toList args.toList ds p := hA0
  rw [Tryd.params5] at hA hval
  obtain ⟨v0, vs0, d0, ds0, p0, q0, hargs, rfl, rfl, h0, r0⟩ := trodAll_cons hA
  obtain ⟨v1, vs1, d1, ds1, p1, q1, rfl, rfl, rfl, h1, r1⟩ := trodAll_cons r0
  obtain ⟨rfl, rfl, rfl⟩ := trodAll_nil r1
  obtain rfl : args = #[v0, v1] := by cases args; simp_all
  obtain ⟨a0, rfl, rfl, rfl, w0⟩ := open_int Tryd.underlying22 (hval 0 22 v0 rfl rfl) h0
  simp [Lit.wf, IntKind.min, IntKind.max, IntKind.bits, IntKind.signed] at w0
  obtain ⟨a1, rfl, rfl, rfl, w1⟩ := open_int Tryd.underlying35 (hval 1 35 v1 rfl rfl) h1
  simp [Lit.wf, IntKind.min, IntKind.max, IntKind.bits, IntKind.signed] at w1
  refine (walk a0 (by omega) (by omega) a1 (by omega) (by omega) W (tab_of hL)).mono fun e W' ⟨he, hg⟩ => ?_
  subst he
  exact ⟨_, rfl, law_post laidOut_ (by intro t ht; rw [Tryd.params5] at ht; simp at ht; rcases ht with rfl | rfl <;> exact ⟨by kernel_rfl, by decide +kernel⟩) hW' rfl rfl (by kernel_rfl) Tryd.underlying4 hg⟩
theorem laid_met (os : Os) : laidMet Tryd.prog Rows.mixPermRow.laid ((laidWorld os).forCall (fun _ _ => 0) ⟨#[], #[.int .u64 0, .int .u16 0], []⟩).memory :=
  laidMet_of_run' 8 (by kernel_rfl) (by kernel_rfl)
theorem reads (os : Os) {H : Type} (enc : TypeId × Value → H) : ∃ places, DataW.whole enc Tryd.prog ((laidWorld os).forCall (fun _ _ => 0) ⟨#[], #[.int .u64 0, .int .u16 0], []⟩).memory Tryd.f5.params.toList Rows.mixPermSpec.vars false (#[.int .u64 0, .int .u16 0] : Array Value).toList 8 = some ([.lit (.int .u64 0), .lit (.int .u16 0)], [], places) :=
  ⟨[], by kernel_rfl⟩
set_option maxRecDepth 100000 in
theorem lifted (os : Os) (started : os.Started) (H : Type) (enc : TypeId × Value → H) (F : Stop.Interp) :
    ReturnsInHanded {} Tryd.checked os 5 .any ((OpenSpec.ofChange Rows.mixPermSpec).preRow enc Tryd.prog Tryd.f5 Rows.mixPermRow.domain false Rows.mixPermRow.laid) (((OpenSpec.ofChange Rows.mixPermSpec).at F).post enc Tryd.prog Tryd.f5 false true false false) := by
  obtain ⟨places, hx⟩ := reads os enc
  refine returnsInHanded_of_row (C := Tryd.checked) (s := OpenSpec.ofChange Rows.mixPermSpec) own_ started (by kernel_rfl) Tryd.func5
    (witness_row_at (enc := enc) (C := Tryd.checked) false (laidWorld os) #[.int .u64 0, .int .u16 0] rfl (by kernel_rfl) (by kernel_rfl) (by kernel_rfl)
      (OpenSpec.preRow_of_cond 8 hx (by kernel_rfl) (fun k hk => by cases hk) (by kernel_rfl) (laid_met os))) ?_
  intro W base args ds gs before hval hW _ _ _ hL _ _
  exact contract H enc W base args ds gs before hval hW hL
theorem said : Rows.MixPermSaid :=
  OpenClaim.holds_of_cond 5 Tryd.f5 rfl rfl rfl rfl rfl rfl rfl ⟨rfl, rfl, rfl, rfl, rfl⟩ rfl rfl rfl rfl rfl (by kernel_rfl) Tryd.func5 (by kernel_rfl)
    (of_decide_eq_true (by kernel_rfl)) (by unfold Func.isWrapper; first | (rw [if_pos (by decide +kernel)]; kernel_rfl) | (rw [if_neg (by decide +kernel)]; exact ⟨rfl, rfl⟩))
    (fun os started H enc _ F => by rw [OpenClaim.pre_eq_preRow]; exact lifted os started H enc F)
theorem plain (f : FuncId) (fn : Func) (hf : Tryd.pinned.checked.prog.funcNamed "wakeman/wakemanlaw27.MixPerm" = some f) (hfn : Tryd.pinned.checked.prog.funcs[f]? = some fn) :
    false = Tryd.pinned.checked.prog.looks [] ∧ ∀ (j : Nat) t, fn.params[j]? = some t → Tryd.pinned.checked.prog.wantsStandIn t = false := by
  obtain rfl : f = 5 := Option.some.inj ((show Tryd.prog.funcNamed "wakeman/wakemanlaw27.MixPerm" = some 5 by kernel_rfl).symm.trans hf) |>.symm
  obtain rfl : fn = Tryd.f5 := (Option.some.inj (Tryd.func5.symm.trans hfn)).symm
  refine ⟨by kernel_rfl, fun j t ht => ?_⟩
  rw [Tryd.params5] at ht
  have hm := Array.mem_of_getElem? ht
  simp at hm
  rcases hm with rfl | rfl
  · exact (show Tryd.prog.wantsStandIn 22 = false by kernel_rfl)
  · exact (show Tryd.prog.wantsStandIn 35 = false by kernel_rfl)
theorem card : Rows.MixPermCardSaid :=
  Claim7.holds_tied_plain_at .later [] _ _ _ _ said (fun _ h => by cases h) (by kernel_rfl) (fun _ h => by cases h) mixPerm_row_tie rfl ⟨rfl, rfl⟩ (by kernel_rfl) rfl plain (by kernel_rfl)
#print axioms card
end Go.Proofs.YtelilcpbckecbaaDoor.lawMixPerm
