/-
  The contract of wakemanref27.Perm: the same list as the program's.
-/
import Derived.Test.YtelilcpbckecbaaDoorRefC
import Derived.Test.YtelilcpbckecbaaDoorPermC
set_option linter.unusedVariables false
set_option linter.unusedSimpArgs false
namespace Go.Proofs.YtelilcpbckecbaaDoor
open Go.RowKit

def upTo (k : Nat) : List Int := (List.range k).map fun (i : Nat) => (i : Int)
theorem upTo_succ (k : Nat) : upTo (k + 1) = upTo k ++ [(k : Int)] := by simp [upTo, List.range_succ]
theorem upTo_cnt (n : Nat) : upTo n = cntTo n n := by
  unfold upTo cntTo
  apply List.map_congr_left
  intro i hi
  rw [List.mem_range] at hi
  rw [if_pos hi]
theorem vI_app (k : IntKind) (l : List Int) (x : Int) : vI k l ++ [Value.int k x] = vI k (l ++ [x]) := by simp [vI]
set_option maxHeartbeats 400000 in
theorem rperm_bad (s n : Int) (hn : n < 0 ∨ 256 < n) (w : World) :
    Calls Tryd.prog 14 #[.int .u64 s, .int .i64 n] w fun e w' => e = .returned (.tuple #[.slice none 0 0, .int .i64 2]) ∧ w = w' := by
  rcases hn with h | h
  · go_enter Tryd.func14, Tryd.ntmps14
    go_wp2_with fail
    go_ret2
    exact ⟨rfl, rfl⟩
  · have h' : ¬ n < 0 := by omega
    go_enter Tryd.func14, Tryd.ntmps14
    go_wp2_with fail
    go_ret2
    exact ⟨rfl, rfl⟩

set_option maxHeartbeats 2000000 in
theorem rperm_any (s : Int) (n : Nat) (hs0 : 0 ≤ s) (hs1 : s < 18446744073709551616) (hn : n ≤ 256) (w : World) :
    Calls Tryd.prog 14 #[.int .u64 s, .int .i64 n] w fun e w' => ∃ v, e = .returned (.tuple #[v, .int .i64 0]) ∧ G w w' ∧ w'.ownsRow w.heap.size 3 1 v n (vI .i64 (permTo s n (n - 1))) := by
  have hi : (Tryd.prog.info? 3).map (fun i => (i.zero, i.size, i.bytes)) = some (some (.int .i64 0), 1, 8) := by kernel_rfl
  obtain ⟨i0, hi_, hz0, hz1, hz2⟩ := info_parts hi
  clear hi
  have hi := hi_
  go_enter Tryd.func14, Tryd.ntmps14
  go_wp2_with fail
  go_loopw [6, 7] (fun v i wr => ∃ k : Nat, k ≤ n ∧ i = .int .i64 k ∧ G w wr ∧ wr.ownsRow w.heap.size 3 1 v k (vI .i64 (upTo k))) (fun _ i _ => n - (intOf i).toNat)
  case atStart => exact ⟨0, by omega, rfl, G.refl _, by exact World.ownsRow_nil _ _ _ _⟩
  case round =>
    obtain ⟨k, hk, rfl, hg, hown⟩ := hrel
    by_cases hlt : k < n
    · have hsz := hg.size
      go_wp2_with (at_builtin; refine wpList_append_own _ rfl _ _ 23 rfl w.heap.size 3 i0 (.int .i64 0) 1 8 Tryd.underlying23 hi hz0 hz1 hz2 rfl (by decide) _ _ _ rfl (hown.alloc _) ⟨wr.heap.size, 0, none⟩ 1 1 [.int .i64 (k : Int)] rfl rfl (cell_one_new _ _ _) (by simp [Value.oneCell']) (by unfold maxLen; omega) (by omega) (by simp; omega) ?_; intro v' w1 hown' hgrow _)
      have hg1 : G w w1 := (hg.alloc _).grown hgrow (fun r e => (hown.lt r e).1)
      rw [vI_app, ← upTo_succ] at hown'
      go_wp2_with fail
      go_roundw
      case rel => exact ⟨k + 1, by omega, by go_num, hg1, hown'⟩
      case measure => simp [intOf]; omega
    · obtain rfl : k = n := by omega
      clear hi hz0 hz1 hz2 hi_
      rw [upTo_cnt] at hown
      go_wp2_with fail
      refine (rnew_any s _).mono ?_
      rintro e w1 ⟨rfl, rfl⟩
      have hS := Blk.new wr 56 #[.bool true, .int .u64 s, .int .u64 0]
      have hg2 := hg.alloc (.cells #[.bool true, .int .u64 s, .int .u64 0] 56)
      have hown2 := hown.alloc (.cells #[.bool true, .int .u64 s, .int .u64 0] 56)
      have hsz := hg.size
      have hown3 := hown.lt
      generalize wr.alloc (.cells #[.bool true, .int .u64 s, .int .u64 0] 56) = W2 at hS hg2 hown2 ⊢
      generalize wr.heap.size = kS at hS hsz hown3 ⊢
      have hvk : u6.ownBlock ≠ some kS := fun e => by have := hown3 kS e; omega
      clear hown hg hown3
      rcases Nat.eq_zero_or_pos k with rfl | hk0
      · go_wp2_with fail
        go_loopw [9] (fun i wr2 => i = .int .i64 (-1) ∧ G w wr2 ∧ wr2.ownsRow w.heap.size 3 1 u6 0 (vI .i64 (cntTo 0 0))) (fun i _ => 0)
        case atStart => exact ⟨rfl, hg2, hown2⟩
        case round =>
          obtain ⟨rfl, hg3, hown3⟩ := hrel
          go_wp2_with fail
          go_ret2
          exact ⟨u6, rfl, hg3, hown3⟩
      · obtain ⟨g, cap, hv⟩ : ∃ g cap, u6 = .slice (some ⟨g, 0, none⟩) k cap := by
          rcases hown2.2 with ⟨_, h⟩ | ⟨g, cap, cur, h, _⟩
          · omega
          · exact ⟨g, cap, h⟩
        have hgw := (hown2.lt g (by rw [hv]; rfl)).1
        rw [hv] at hown2 hvk ⊢
        have hgk : g ≠ kS := by intro e; exact hvk (by rw [e]; rfl)
        clear hv hvk
        go_wp2_with fail
        go_loopw [9] (fun i wr2 => ∃ t : Nat, t + 1 ≤ k ∧ i = .int .i64 ((k : Int) - 1 - t) ∧ G w wr2 ∧ wr2.ownsRow w.heap.size 3 1 (.slice (some ⟨g, 0, none⟩) k cap) k (vI .i64 (permTo s k t)) ∧ Blk wr2 kS 56 #[.bool true, .int .u64 s, .int .u64 t]) (fun i _ => (intOf i).toNat)
        case atStart => exact ⟨0, by omega, by go_num, hg2, hown2, hS⟩
        case round =>
          obtain ⟨t, htk, rfl, hg3, hown3, hs3⟩ := hrel
          by_cases hlt2 : t + 1 < k
          · obtain ⟨i, hi⟩ : ∃ i : Nat, (k : Int) - 1 - t = i := ⟨k - 1 - t, by omega⟩
            have hi1 : 1 ≤ i := by omega
            have hik : i < k := by omega
            have hii : i = k - 1 - t := by omega
            rw [hi]
            have HI := Lib.hid hi
            have HII := Lib.hid hii
            clear hi hii
            go_wp2_with fail
            refine (rnext_any kS _ _ _ hs3).mono ?_
            rintro e w3 ⟨rfl, hg4, hs4⟩
            rw [show IntKind.u64.wrap ((t : Int) + 1) = ((t + 1 : Nat) : Int) by rw [IntKind.wrap_u64]; omega] at hs4
            have hown4 := hown3.kept hg4 (.inr (by simp [Value.ownBlock]; exact hgk))
            have hG4 := hg3.own hg4 hsz
            go_wp2_with fail
            refine (rbelow_any (atI s t) ((i : Int) + 1) (atI_bd _ _).1 (atI_bd _ _).2 (by omega) (by omega) _).mono ?_
            rintro e w4 ⟨rfl, rfl⟩
            have hj : hiI (atI s t) ((i : Int) + 1) = (jAt s k t : Int) := by
              have hb := hiI_bd (atI s t) ((i : Int) + 1) (atI_bd _ _).1 (atI_bd _ _).2 (by omega)
              unfold jAt; rw [HII.out] at hb ⊢; exact (Int.toNat_of_nonneg hb.1).symm
            rw [hj]
            have hjl : jAt s k t ≤ i := by have := jAt_lt s k t (by omega); have := HII.out; omega
            have hstep : permTo s k (t + 1) = swapL (permTo s k t) i (jAt s k t) := by rw [permTo, HII.out]
            have HS := Lib.hid hstep
            clear hj hstep
            have hlen := permTo_len s k t
            generalize jAt s k t = j at hjl HS ⊢
            generalize permTo s k t = L at hown4 HS hlen
            have HL := Lib.hid hlen
            have hiL : i < L.length := by omega
            have hjL : j < L.length := by omega
            have hjk : j < k := by omega
            clear hlen hown3
            have c1 : w4.cell? ⟨g, i, none⟩ = some (.int .i64 (L[i]?.getD 0)) := (hown4.cellAt i (by omega)).trans (vI_get hiL)
            have c2 : w4.cell? ⟨g, j, none⟩ = some (.int .i64 (L[j]?.getD 0)) := (hown4.cellAt j (by omega)).trans (vI_get hjL)
            have q1 := hown4.frozenAt i
            have q2 := hown4.frozenAt j
            have HW : Hid (swapL L i j = (L.set i (L[j]?.getD 0)).set j (L[i]?.getD 0)) := rfl
            generalize L[i]?.getD 0 = x at c1 HW
            generalize L[j]?.getD 0 = y at c2 HW
            obtain ⟨hown5, hg5⟩ := hown4.stored i (.int .i64 y)
            rw [show (vI IntKind.i64 L).set i (.int .i64 y) = vI .i64 (L.set i y) by simp [vI, List.map_set]] at hown5
            have c3 : (w4.setCell ⟨g, i, none⟩ (.int .i64 y)).cell? ⟨g, j, none⟩ = some (.int .i64 ((L.set i y)[j]?.getD 0)) := (hown5.cellAt j (by omega)).trans (vI_get (by rw [List.length_set]; exact hjL))
            generalize (L.set i y)[j]?.getD 0 = z at c3
            obtain ⟨hown6, hg6⟩ := hown5.stored j (.int .i64 x)
            rw [show (vI IntKind.i64 (L.set i y)).set j (.int .i64 x) = vI .i64 ((L.set i y).set j x) by simp [vI, List.map_set], ← HW.out, ← HS.out] at hown6
            clear hiL hjL
            go_wp2_with fail
            refine wp_then ?_
            go_cut [] from 44 to 59 (fun wx => G w wx ∧ wx.ownsRow w.heap.size 3 1 (.slice (some ⟨g, 0, none⟩) k cap) k (vI .i64 (permTo s k (t + 1))) ∧ Blk wx kS 56 #[.bool true, .int .u64 s, .int .u64 ((t + 1 : Nat) : Int)])
            case first =>
              as_aux_lemma =>
                go_region
                all_goals (go_wp2_with fail; go_meet; exact ⟨((hG4.setCell hgw _).setCell hgw _).drew, hown6, (hs4.far (fun e => hgk e.symm) _).far (fun e => hgk e.symm) _⟩)
            case rest =>
              obtain ⟨hg7, hown7, hs7⟩ := hcut
              go_wp2_with fail
              go_roundw
              case rel =>
                have e1 : (i : Int) - 1 = (k : Int) - 1 - ((t + 1 : Nat) : Int) := by have := HI.out; omega
                rw [e1]
                exact ⟨t + 1, by omega, rfl, hg7, hown7, hs7⟩
              case measure => simp [intOf]; omega
          · obtain rfl : t = k - 1 := by omega
            go_wp2_with fail
            go_ret2
            exact ⟨_, rfl, hg3, hown3⟩
end Go.Proofs.YtelilcpbckecbaaDoor
