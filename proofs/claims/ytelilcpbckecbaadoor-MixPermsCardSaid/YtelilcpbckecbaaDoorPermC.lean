/-
  The contract of mix.Perm.
-/
import Derived.Test.YtelilcpbckecbaaDoorPermM
import Derived.BigRegion
import Derived.Deep.DeepCutAuto
import Derived.Laws.MakeOwn
set_option linter.unusedVariables false
set_option linter.unusedSimpArgs false
namespace Go.Proofs.YtelilcpbckecbaaDoor
open Go.RowKit

theorem madeCells_one (z : Value) (n : Nat) : madeCells #[z] (n * 1) = Array.replicate n z := by
  apply Array.ext'
  rw [Nat.mul_one, toList_madeCells_one]; simp
theorem make_ints (n : Nat) (hn : n ≤ 281474976710656 / 8) (W : World) :
    (Instr.makeSlice 23 (.int .i64 (n : Int)) (.int .i64 (n : Int))).run Tryd.prog W = .ok (.slice (some ⟨W.heap.size, 0, none⟩) n n) (W.alloc (.cells (vI .i64 (cntTo n 0)).toArray 3)) := by
  have hi : (Tryd.prog.info? 3).map (fun i => (i.zero, i.size, i.bytes)) = some (some (.int .i64 0), 1, 8) := by kernel_rfl
  obtain ⟨i0, hi, hz0, hz1, hz2⟩ := info_parts hi
  have h := run_make (P := Tryd.prog) W 23 3 i0 (.int .i64 0) Tryd.underlying23 hi hz0 .i64 .i64 n n (by omega) (Int.le_refl _) (by rw [hz2]; omega) (by omega)
  simp only [Int.toNat_natCast] at h
  rw [h, hz1, show (Value.int IntKind.i64 0).cells = #[Value.int .i64 0] from rfl, madeCells_one, vI_rep]

set_option maxHeartbeats 400000 in
theorem perm_bad (s n : Int) (hn : n < 0 ∨ 256 < n) (w : World) :
    Calls Tryd.prog 13 #[.int .u64 s, .int .i64 n] w fun e w' => e = .returned (.tuple #[.slice none 0 0, .int .i64 2]) ∧ w = w' := by
  rcases hn with h | h
  · go_enter Tryd.func13, Tryd.ntmps13
    go_wp2_with fail
    go_ret2
    exact ⟨rfl, rfl⟩
  · have h' : ¬ n < 0 := by omega
    go_enter Tryd.func13, Tryd.ntmps13
    go_wp2_with fail
    go_ret2
    exact ⟨rfl, rfl⟩

set_option maxHeartbeats 1000000 in
theorem perm_any (s : Int) (n : Nat) (hs0 : 0 ≤ s) (hs1 : s < 18446744073709551616) (hn : n ≤ 256) (w : World) (ht : Tab w) :
    Calls Tryd.prog 13 #[.int .u64 s, .int .i64 n] w fun e w' => e = .returned (.tuple #[.slice (some ⟨w.heap.size, 0, none⟩) n n, .int .i64 0]) ∧ G w w' ∧ Blk w' w.heap.size 3 (vI .i64 (permTo s n (n - 1))).toArray := by
  have hmk := fun W => make_ints n (by omega) W
  go_enter Tryd.func13, Tryd.ntmps13
  go_wp2_with fail
  go_loopw [7, 22] (fun _ i wr => ∃ k : Nat, k ≤ n ∧ i = .int .i64 k ∧ G w wr ∧ Blk wr w.heap.size 3 (vI .i64 (cntTo n k)).toArray) (fun _ i _ => n - (intOf i).toNat)
  case atStart => exact ⟨0, Nat.zero_le _, rfl, (by repeat (first | exact G.refl _ | refine G.alloc ?_ _ | refine G.drewN ?_ _ | refine G.drew ?_ | refine G.trans ?_ (by assumption))), Blk.new _ _ _⟩
  case round =>
    obtain ⟨k, hk, rfl, hg, hb⟩ := hrel
    by_cases hlt : k < n
    · have c0 := cellI hb (i := k) (by rw [cntTo_len]; exact hlt)
      have f0 := hb.frozen k
      go_wp2
      go_roundw
      case rel => exact ⟨k + 1, by omega, by go_num, hg.setCell (by simp) _, by rw [← cntTo_succ n k hlt, ← vI_set]; exact hb.set_ k _⟩
      case measure => simp [intOf]; omega
    · obtain rfl : k = n := by omega
      go_wp2_with fail
      refine (new_any s _).mono ?_
      rintro e w1 ⟨rfl, rfl⟩
      go_wp2_with fail
      clear hmk
      have ht1 := ht.g hg
      have hlt0 := hb.lt
      have hsz := hg.size
      have hz0 := ht.1
      have hS := Blk.new wr 49 #[.bool true, .int .u64 s]
      generalize wr.heap.size = kS at hS hlt0 hsz ⊢
      obtain ⟨wo, rfl⟩ : ∃ wo : World, wo = wr := ⟨_, rfl⟩
      go_loopw [9] (fun i wr2 => ∃ t : Nat, t + 1 ≤ k + 1 - min k 1 ∧ i = .int .i64 ((k : Int) - 1 - t) ∧ G w wr2 ∧ Blk wr2 w.heap.size 3 (vI .i64 (permTo s k t)).toArray ∧ Blk wr2 kS 49 #[.bool true, .int .u64 (srcAt s t)]) (fun i _ => (intOf i).toNat)
      case atStart => exact ⟨0, by omega, by go_num, (by repeat (first | exact G.refl _ | refine G.alloc ?_ _ | refine G.drewN ?_ _ | refine G.drew ?_ | refine G.trans ?_ (by assumption))), hb.alloc _, by rw [srcAt_zero s hs0 hs1]; exact hS⟩
      case round =>
        obtain ⟨t, htk, rfl, hg2, hb2, hs2⟩ := hrel
        by_cases hlt : t + 1 < k
        · have hne : w.heap.size ≠ kS := by omega
          obtain ⟨i, hi⟩ : ∃ i : Nat, (k : Int) - 1 - t = i := ⟨k - 1 - t, by omega⟩
          have hi1 : 1 ≤ i := by omega
          have hik : i < k := by omega
          have hii : i = k - 1 - t := by omega
          rw [hi]
          have HI := Lib.hid hi
          have HII := Lib.hid hii
          clear hi hii
          go_wp2_with fail
          refine (next_any kS _ _ (ht.g hg2) (by omega) hs2).mono ?_
          rintro e w3 ⟨rfl, hg3, hs3⟩
          rw [srcAt_next] at hs3 ⊢
          rw [srcAt_mix]
          have hb3 := hb2.grown hg3 (by simpa using hne)
          have hg4 := hg2.own hg3 (by omega)
          go_wp2_with fail
          refine (mul64_any (atI s t) ((i : Int) + 1) (atI_bd _ _).1 (atI_bd _ _).2 (by omega) (by omega) _).mono ?_
          rintro e w4 ⟨rfl, rfl⟩
          have hj : hiI (atI s t) ((i : Int) + 1) = (jAt s k t : Int) := by
            have hb := hiI_bd (atI s t) ((i : Int) + 1) (atI_bd _ _).1 (atI_bd _ _).2 (by omega)
            unfold jAt; rw [HII.out] at hb ⊢; omega
          rw [hj]
          have hjl : jAt s k t ≤ i := by have := jAt_lt s k t (by omega); have := HII.out; omega
          have hstep : permTo s k (t + 1) = swapL (permTo s k t) i (jAt s k t) := by rw [permTo, HII.out]
          have HS := Lib.hid hstep
          clear hj hstep
          have hlen := permTo_len s k t
          generalize jAt s k t = j at hjl HS ⊢
          generalize permTo s k t = L at hb3 HS hlen
          have HL := Lib.hid hlen
          have hiL : i < L.length := by omega
          have hjL : j < L.length := by omega
          clear hlen hb2
          go_wp2_with fail
          have c1 := cellI hb3 hiL
          have c2 := cellI hb3 hjL
          have q1 := hb3.frozen i
          have q2 := hb3.frozen j
          have hjk : j < k := by omega
          have HW : Hid (swapL L i j = (L.set i (L[j]?.getD 0)).set j (L[i]?.getD 0)) := rfl
          generalize L[i]?.getD 0 = x at c1 HW
          generalize L[j]?.getD 0 = y at c2 HW
          have hb4 := hb3.set_ i (.int .i64 y)
          rw [vI_set] at hb4
          have c3 := cellI (i := j) hb4 (by rw [List.length_set]; exact hjL)
          generalize (L.set i y)[j]?.getD 0 = z at c3
          have hb5 := hb4.set_ j (.int .i64 x)
          rw [vI_set, ← HW.out, ← HS.out] at hb5
          clear hiL hjL
          refine wp_then ?_
          go_cut [] from 47 to 60 (fun wx => G w wx ∧ Blk wx w.heap.size 3 (vI .i64 (permTo s k (t + 1))).toArray ∧ Blk wx kS 49 #[.bool true, .int .u64 (srcAt s (t + 1))])
          case first =>
            as_aux_lemma =>
              go_region
              all_goals (go_wp2_with fail; go_meet; exact ⟨((hg4.setCell (by simp) _).setCell (by simp) _).drew, hb5, (hs3.far (by simp; omega) _).far (by simp; omega) _⟩)
          case rest =>
            obtain ⟨hg5, hb6, hs6⟩ := hcut
            go_wp2_with fail
            go_roundw
            case rel =>
              have e1 : (i : Int) - 1 = (k : Int) - 1 - ((t + 1 : Nat) : Int) := by have := HI.out; omega
              rw [e1]
              exact ⟨t + 1, by omega, rfl, hg5, hb6, hs6⟩
            case measure => simp [intOf]; omega
        · obtain rfl : t = k - 1 := by omega
          go_wp2_with fail
          go_ret2
          exact ⟨rfl, hg2, hb2⟩
end Go.Proofs.YtelilcpbckecbaaDoor
