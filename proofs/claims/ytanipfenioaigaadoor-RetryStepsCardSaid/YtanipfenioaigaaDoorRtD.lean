/-
  Latest, in the program and in the document.
-/
import Derived.Test.YtanipfenioaigaaDoorRtR
set_option linter.unusedVariables false
set_option linter.unusedSimpArgs false
namespace Go.Proofs.YtanipfenioaigaaDoor
open Go.RowKit Go.Shelf

def ltE (M B C J first run wait : Int) : Int := if okR M B C J then (if tmB first then (if spB run ∧ spB wait then 0 else 2) else 14) else 16
/-- the sum of the longest waits -/
def sumL (B C J : Int) : Nat → Int
  | 0 => 0
  | k + 1 => sumL B C J k + (wAt B C k + max (J - 1) 0)
def ltV (M B C J first run wait : Int) : Int := if ltE M B C J first run wait = 0 then first + (M + 1) * (run + wait) + sumL B C J M.toNat else 0
/-- the document's sum -/
def rlS (B C J first run wait : Int) : Nat → Int
  | 0 => first + wait + run
  | k + 1 => rlS B C J first run wait k + wAt B C k + wait + run + max (J - 1) 0
theorem rlS_eq (B C J first run wait : Int) (k : Nat) : rlS B C J first run wait k = first + ((k : Int) + 1) * (run + wait) + sumL B C J k := by
  induction k with
  | zero => simp only [rlS, sumL]; simp; omega
  | succ k ih =>
    simp only [rlS, sumL, ih]
    have h : (((k + 1 : Nat) : Int) + 1) * (run + wait) = ((k : Int) + 1) * (run + wait) + (run + wait) := by
      rw [show (((k + 1 : Nat) : Int) + 1) = ((k : Int) + 1) + 1 from by omega, Int.add_mul ((k : Int) + 1) 1 (run + wait), Int.one_mul]
    rw [h]
    omega
theorem sumL_bd {M B C J : Int} (h : okR M B C J) (k : Nat) : 0 ≤ sumL B C J k ∧ sumL B C J k ≤ k * 137438953472 := by
  induction k with
  | zero => simp [sumL]
  | succ k ih =>
    have h1 := wAt_bound h k
    obtain ⟨-, j0, j1⟩ := okR_bd h
    simp only [sumL]
    omega
theorem rlS_bd {M B C J first run wait : Int} (h : okR M B C J) (hf : tmB first) (hr : spB run) (hw : spB wait) (k : Nat) : 0 ≤ rlS B C J first run wait k ∧ rlS B C J first run wait k ≤ 390841254271 + k * 274877906944 := by
  unfold tmB at hf
  unfold spB at hr hw
  induction k with
  | zero => simp only [rlS]; omega
  | succ k ih =>
    have h1 := wAt_bound h k
    obtain ⟨-, j0, j1⟩ := okR_bd h
    simp only [rlS]
    omega
/-- the array of the waits while it is being written -/
def waL (B C J : Int) (k : Nat) : List Int := (List.range 20).map (fun j => if j < k then wAt B C j + max (J - 1) 0 else 0)
theorem waL_len (B C J : Int) (k : Nat) : (waL B C J k).length = 20 := by simp [waL]
theorem waL_zero (B C J : Int) : (vI .i64 (waL B C J 0)).toArray = #[.int .i64 0, .int .i64 0, .int .i64 0, .int .i64 0, .int .i64 0, .int .i64 0, .int .i64 0, .int .i64 0, .int .i64 0, .int .i64 0, .int .i64 0, .int .i64 0, .int .i64 0, .int .i64 0, .int .i64 0, .int .i64 0, .int .i64 0, .int .i64 0, .int .i64 0, .int .i64 0] := by
  simp [waL, vI, List.range_succ]
theorem waL_set (B C J : Int) (i : Nat) (h : i < 20) : (vI .i64 (waL B C J i)).toArray.setIfInBounds i (.int .i64 (wAt B C i + max (J - 1) 0)) = (vI .i64 (waL B C J (i + 1))).toArray := by
  apply Array.ext'
  rw [Array.toList_setIfInBounds]
  simp only [vI, waL, List.map_map]
  apply List.ext_getElem?
  intro k
  rw [List.getElem?_set]
  simp only [List.length_map, List.length_range, List.getElem?_map]
  by_cases hk : k < 20
  · rw [List.getElem?_range hk]
    by_cases e : i = k
    · subst e
      simp [h]
    · simp only [e, if_false, Option.map_some, Function.comp]
      by_cases h2 : k < i
      · rw [if_pos h2, if_pos (by omega)]
      · rw [if_neg h2, if_neg (by omega)]
  · rw [List.getElem?_eq_none (by simpa using hk)]
    by_cases e : i = k
    · omega
    · simp [e]
theorem waL_get (B C J : Int) (m j : Nat) (h : j < 20) : (vI .i64 (waL B C J m)).toArray[j]? = some (.int .i64 (if j < m then wAt B C j + max (J - 1) 0 else 0)) := by
  rw [List.getElem?_toArray]
  simp only [vI, waL, List.map_map, List.getElem?_map]
  rw [List.getElem?_range h]
  rfl
theorem sumL_min (B C J : Int) (m j : Nat) : sumL B C J (min (j + 1) m) = sumL B C J (min j m) + (if j < m then wAt B C j + max (J - 1) 0 else 0) := by
  by_cases h : j < m
  · rw [if_pos h, Nat.min_eq_left (by omega), Nat.min_eq_left (by omega)]
    rfl
  · rw [if_neg h, Nat.min_eq_right (by omega), Nat.min_eq_right (by omega)]
    omega
theorem arr_index (F : Nat → Int) (j : Nat) (hj : j < 20) (w : World) : (Instr.index 77 (.agg #[.int .i64 (F 0), .int .i64 (F 1), .int .i64 (F 2), .int .i64 (F 3), .int .i64 (F 4), .int .i64 (F 5), .int .i64 (F 6), .int .i64 (F 7), .int .i64 (F 8), .int .i64 (F 9), .int .i64 (F 10), .int .i64 (F 11), .int .i64 (F 12), .int .i64 (F 13), .int .i64 (F 14), .int .i64 (F 15), .int .i64 (F 16), .int .i64 (F 17), .int .i64 (F 18), .int .i64 (F 19)]) (.int .i64 j)).run Tryd.prog w = .ok (.int .i64 (F j)) w :=
  match j, hj with
  | 0, _ => by kernel_rfl
  | 1, _ => by kernel_rfl
  | 2, _ => by kernel_rfl
  | 3, _ => by kernel_rfl
  | 4, _ => by kernel_rfl
  | 5, _ => by kernel_rfl
  | 6, _ => by kernel_rfl
  | 7, _ => by kernel_rfl
  | 8, _ => by kernel_rfl
  | 9, _ => by kernel_rfl
  | 10, _ => by kernel_rfl
  | 11, _ => by kernel_rfl
  | 12, _ => by kernel_rfl
  | 13, _ => by kernel_rfl
  | 14, _ => by kernel_rfl
  | 15, _ => by kernel_rfl
  | 16, _ => by kernel_rfl
  | 17, _ => by kernel_rfl
  | 18, _ => by kernel_rfl
  | 19, _ => by kernel_rfl
  | n + 20, h => absurd h (by omega)
set_option maxRecDepth 20000 in
theorem arr_at (l : List Int) (hl : l.length = 20) (j : Nat) (hj : j < 20) (w : World) : (Instr.index 77 (.agg (vI .i64 l).toArray) (.int .i64 j)).run Tryd.prog w = .ok (.int .i64 (l[j]?.getD 0)) w := by
  have h := arr_index (fun k => l[k]?.getD 0) j hj w
  match l, hl with
  | [a0, a1, a2, a3, a4, a5, a6, a7, a8, a9, a10, a11, a12, a13, a14, a15, a16, a17, a18, a19], _ => exact h
def waF (B C J : Int) (m j : Nat) : Int := if j < m then wAt B C j + max (J - 1) 0 else 0
theorem waF_bd {M B C J : Int} (h : okR M B C J) (m j : Nat) : 0 ≤ waF B C J m j ∧ waF B C J m j ≤ 137438953472 := by
  have h1 := wAt_bound h j
  obtain ⟨-, j0, j1⟩ := okR_bd h
  unfold waF
  split <;> omega
set_option maxRecDepth 20000 in
set_option maxHeartbeats 4000000 in
theorem latest_any (M B C J first run wait : Int) (w : World) :
    Calls Tryd.prog 19 #[.agg #[.int .i64 M, .int .i64 B, .int .i64 C, .int .i64 J], .int .i64 first, .int .i64 run, .int .i64 wait] w fun e w' => e = .returned (.tuple #[.int .i64 (ltV M B C J first run wait), .int .i64 (ltE M B C J first run wait)]) ∧ G w w' := by
  by_cases hok : okR M B C J
  · have HC : Hid (chkE M B C J = 0) := Lib.hid (if_pos hok)
    by_cases hf : tmB first
    · have HF := Lib.hid (decide_eq_true hf)
      by_cases hr : spB run
      · have HR := Lib.hid (decide_eq_true hr)
        by_cases hw : spB wait
        · have HW := Lib.hid (decide_eq_true hw)
          have HE : Hid (ltE M B C J first run wait = 0) := Lib.hid (by unfold ltE; rw [if_pos hok, if_pos hf, if_pos ⟨hr, hw⟩])
          have HV : Hid (ltV M B C J first run wait = first + (M + 1) * (run + wait) + sumL B C J M.toNat) := Lib.hid (if_pos HE.out)
          obtain ⟨⟨m0, m1⟩, j0, j1⟩ := okR_bd hok
          have HOK := Lib.hid hok
          obtain ⟨f0, f1⟩ := id hf
          obtain ⟨r0, r1⟩ := id hr
          obtain ⟨x0, x1⟩ := id hw
          rw [HV.out, HE.out]
          obtain ⟨m, rfl⟩ : ∃ m : Nat, M = m := ⟨M.toNat, by omega⟩
          rw [Int.toNat_natCast]
          clear HV HE hok hf hr hw
          go_enter Tryd.func19, Tryd.ntmps19
          go_wp2_with fail
          go_at_call 41
          refine (check_any _ B C J _).mono ?_
          rintro e w1 ⟨rfl, g1⟩
          rw [HC.out]
          have hb : Blk w1 w.heap.size 23 #[.int .i64 m, .int .i64 B, .int .i64 C, .int .i64 J] := Blk.g (Blk.new w _ _) g1
          have gW : G w w1 := ((G.refl w).alloc _).trans g1
          clear g1
          have c0 : w1.cell? ⟨w.heap.size, 0, none⟩ = some (.int .i64 m) := hb.cell 0
          go_wp2_with fail
          go_at_call 42
          refine (istime_b first true HF.out _).mono ?_
          rintro e w2 ⟨rfl, rfl⟩
          go_wp2_with fail
          go_at_call 34
          refine (isspan_b run true HR.out _).mono ?_
          rintro e w2 ⟨rfl, rfl⟩
          go_wp2_with fail
          go_at_call 34
          refine (isspan_b wait true HW.out _).mono ?_
          rintro e w2 ⟨rfl, rfl⟩
          have hA := Blk.new w1 77 #[.int .i64 0, .int .i64 0, .int .i64 0, .int .i64 0, .int .i64 0, .int .i64 0, .int .i64 0, .int .i64 0, .int .i64 0, .int .i64 0, .int .i64 0, .int .i64 0, .int .i64 0, .int .i64 0, .int .i64 0, .int .i64 0, .int .i64 0, .int .i64 0, .int .i64 0, .int .i64 0]
          rw [← waL_zero B C J] at hA
          have hb2 := hb.alloc (.cells #[.int .i64 0, .int .i64 0, .int .i64 0, .int .i64 0, .int .i64 0, .int .i64 0, .int .i64 0, .int .i64 0, .int .i64 0, .int .i64 0, .int .i64 0, .int .i64 0, .int .i64 0, .int .i64 0, .int .i64 0, .int .i64 0, .int .i64 0, .int .i64 0, .int .i64 0, .int .i64 0] 77)
          have gW2 := gW.alloc (.cells #[.int .i64 0, .int .i64 0, .int .i64 0, .int .i64 0, .int .i64 0, .int .i64 0, .int .i64 0, .int .i64 0, .int .i64 0, .int .i64 0, .int .i64 0, .int .i64 0, .int .i64 0, .int .i64 0, .int .i64 0, .int .i64 0, .int .i64 0, .int .i64 0, .int .i64 0, .int .i64 0] 77)
          rw [← waL_zero B C J] at hb2 gW2
          have c0 : (w1.alloc (.cells #[.int .i64 0, .int .i64 0, .int .i64 0, .int .i64 0, .int .i64 0, .int .i64 0, .int .i64 0, .int .i64 0, .int .i64 0, .int .i64 0, .int .i64 0, .int .i64 0, .int .i64 0, .int .i64 0, .int .i64 0, .int .i64 0, .int .i64 0, .int .i64 0, .int .i64 0, .int .i64 0] 77)).cell? ⟨w.heap.size, 0, none⟩ = some (.int .i64 m) := (hb.alloc _).cell 0
          go_wp2_with fail
          rw [← waL_zero B C J]
          have hk1 : w.heap.size ≠ w1.heap.size := by have := hb.lt; omega
          have hsz := gW.size
          clear hb gW c0
          generalize w1.alloc (.cells (vI .i64 (waL B C J 0)).toArray 77) = w2 at *
          generalize w1.heap.size = kA at *
          go_loopw [38] (fun kv wr => ∃ i : Nat, i ≤ m ∧ kv = .int .i64 i ∧ G w wr ∧ Blk wr w.heap.size 23 #[.int .i64 m, .int .i64 B, .int .i64 C, .int .i64 J] ∧ Blk wr kA 77 (vI .i64 (waL B C J i)).toArray) (fun kv _ => m - (intOf kv).toNat)
          case atStart => exact ⟨0, by omega, rfl, gW2, hb2, hA⟩
          case round =>
            clear hb2 gW2 hA
            obtain ⟨i, hi, rfl, hg, hb, hA⟩ := hrel
            by_cases hlt : i < m
            · have HW2 : Hid (waitI m B C J (i + 1) = wAt B C i) := Lib.hid (by unfold waitI; rw [if_pos ⟨HOK.out, by omega, by omega⟩]; congr 1; omega)
              have HU := Lib.hid (waL_set B C J i (by omega))
              obtain ⟨b0, b1, b2, -⟩ := wAt_bound HOK.out i
              have c0 : wr.cell? ⟨w.heap.size, 0, none⟩ = some (.int .i64 m) := hb.cell 0
              have c1 : wr.cell? ⟨w.heap.size, 1, none⟩ = some (.int .i64 B) := hb.cell 1
              have c2 : wr.cell? ⟨w.heap.size, 2, none⟩ = some (.int .i64 C) := hb.cell 2
              have c3 : wr.cell? ⟨w.heap.size, 3, none⟩ = some (.int .i64 J) := hb.cell 3
              have hil : (i : Int) < m := by omega
              go_wp2_with fail
              go_at_call 28
              refine (bwait_any m B C J (i + 1) _).mono ?_
              rintro e w3 ⟨rfl, g3⟩
              rw [HW2.out]
              generalize waitE m B C J (i + 1) = we at *
              generalize wAt B C i = x at *
              replace hb := hb.g g3
              replace hA := hA.g g3
              replace hg := hg.trans g3
              clear c0 c1 c2 c3 g3
              have c3 : w3.cell? ⟨w.heap.size, 3, none⟩ = some (.int .i64 J) := hb.cell 3
              obtain ⟨y, hy⟩ : ∃ y, w3.cell? ⟨kA, i, none⟩ = some y := ⟨_, (hA.cell i).trans (waL_get B C J i i (by omega))⟩
              have f0 := hA.frozen i
              rcases Int.lt_or_le J 1 with hj | hj
              · have HX : Hid (max (J - 1) 0 = 0) := Lib.hid (by omega)
                obtain rfl : J = 0 := by omega
                go_wp2_with fail
                go_roundw
                case rel => exact ⟨i + 1, by omega, by go_num, hg.setCell (p := ⟨kA, i, none⟩) hsz _, hb.far hk1 _, by rw [← HU.out, HX.out, Int.add_zero]; exact hA.set_ i _⟩
                case measure => simp [intOf]; omega
              · have HX : Hid (max (J - 1) 0 = J - 1) := Lib.hid (by omega)
                go_wp2_with fail
                go_roundw
                case rel => exact ⟨i + 1, by omega, by go_num, hg.setCell (p := ⟨kA, i, none⟩) hsz _, hb.far hk1 _, by rw [← HU.out, HX.out]; exact hA.set_ i _⟩
                case measure => simp [intOf]; omega
            · obtain rfl : i = m := by omega
              have c0 : wr.cell? ⟨w.heap.size, 0, none⟩ = some (.int .i64 i) := hb.cell 0
              have HP : Hid (∀ P, ((i : Int) + 1) * (run + wait) = P → 0 ≤ P ∧ P ≤ 2886218022912) := Lib.hid (fun P h => by
                subst h
                exact ⟨Int.mul_nonneg (by omega) (by omega), Int.le_trans (Int.mul_le_mul (c := 21) (d := 137438953472) (by omega) (by omega) (by omega) (by omega)) (by decide)⟩)
              obtain ⟨P, hP⟩ : ∃ P, ((i : Int) + 1) * (run + wait) = P := ⟨_, rfl⟩
              obtain ⟨P0, P1⟩ := HP.out P hP
              have hW : wrap64 (((i : Int) + 1) * (run + wait)) = P := by rw [hP]; unfold wrap64; omega
              have HZ := Lib.hid hP
              clear HP hP
              have HF2 : Hid (∀ j, 0 ≤ waF B C J i j ∧ waF B C J i j ≤ 137438953472) := Lib.hid (waF_bd HOK.out i)
              have HS : Hid (∀ j, sumL B C J (min (j + 1) i) = sumL B C J (min j i) + waF B C J i j) := Lib.hid (sumL_min B C J i)
              have HSB : Hid (∀ j, 0 ≤ sumL B C J j ∧ sumL B C J j ≤ j * 137438953472) := Lib.hid (sumL_bd HOK.out)
              have HI : Hid (∀ (j : Nat), j < 20 → ∀ w, (Instr.index 77 (.agg (vI .i64 (waL B C J i)).toArray) (.int .i64 j)).run Tryd.prog w = .ok (.int .i64 (waF B C J i j)) w) := Lib.hid (fun j hj w => by
                rw [arr_at _ (waL_len B C J i) j hj w]
                congr 2
                unfold waL waF
                rw [List.getElem?_map, List.getElem?_range hj]
                rfl)
              have hV : (vI .i64 (waL B C J i)).toArray.size = 20 := by simp [vI, waL]
              have hA2 : wr.heap[kA]? = some (.cells (vI .i64 (waL B C J i)).toArray 77 (0, 0)) := hA
              have hVi : (Tryd.prog.info? 77).map (·.size) = some (vI .i64 (waL B C J i)).toArray.size := by
                rw [hV]
                kernel_rfl
              clear hA hV
              generalize (vI .i64 (waL B C J i)).toArray = V at *
              generalize waF B C J i = F at *
              go_wp2_with ((with_reducible (refine wpList_load_row ?lrg 77 ?lrx ?lro kA ?lrh 77 V (0, 0) ?lrd hA2 ?lru ?lrs hVi ?lrk)); (first | (case lrg => rfl)); (first | (case lro => rfl)); (first | (case lrh => rfl)); (first | (case lru => exact Tryd.underlying77)); (first | (case lrs => rfl)))
              clear hW c0 hb hA2 hVi
              go_loopw [15, 67] (fun tv kv wr => ∃ j : Nat, j ≤ 20 ∧ kv = .int .i64 j ∧ tv = .int .i64 (first + P + sumL B C J (min j i)) ∧ G w wr) (fun _ kv _ => 20 - (intOf kv).toNat)
              case atStart => exact ⟨0, by omega, rfl, by rw [Nat.min_eq_left (by omega)]; simp [sumL], hg⟩
              case round =>
                clear hg
                obtain ⟨j, hj, rfl, rfl, hg⟩ := hrel
                by_cases hlt : j < 20
                · have hji : (j : Int) < 20 := by omega
                  have HE := Lib.hid (HS.out j)
                  obtain ⟨q0, q1⟩ := HSB.out (min j i)
                  obtain ⟨z0, z1⟩ := HF2.out j
                  have hx := fun w => HI.out j hlt w
                  have hm20 : ((min j i : Nat) : Int) ≤ 20 := by omega
                  generalize sumL B C J (min j i) = q at *
                  generalize F j = z at *
                  have q2 : q ≤ 20 * 137438953472 := by omega
                  clear q1 hm20
                  go_wp2_with fail
                  go_roundw
                  case rel => exact ⟨j + 1, by omega, by go_num, by rw [HE.out, Int.add_assoc (first + P)], hg⟩
                  case measure => simp [intOf]; omega
                · obtain rfl : j = 20 := by omega
                  rw [Nat.min_eq_right (by omega)]
                  go_wp2_with fail
                  go_ret2
                  exact ⟨by rw [HZ.out]; rfl, hg⟩
        · have HW := Lib.hid (decide_eq_false hw)
          have HE : Hid (ltE M B C J first run wait = 2) := Lib.hid (by unfold ltE; rw [if_pos hok, if_pos hf, if_neg (fun h => hw h.2)])
          have HV : Hid (ltV M B C J first run wait = 0) := Lib.hid (by unfold ltV; rw [HE.out]; rfl)
          rw [HV.out, HE.out]
          clear hok hf hr hw HE HV
          go_enter Tryd.func19, Tryd.ntmps19
          go_wp2_with fail
          go_at_call 41
          refine (check_any M B C J _).mono ?_
          rintro e w1 ⟨rfl, g1⟩
          rw [HC.out]
          go_wp2_with fail
          go_at_call 42
          refine (istime_b first true HF.out _).mono ?_
          rintro e w2 ⟨rfl, rfl⟩
          go_wp2_with fail
          go_at_call 34
          refine (isspan_b run true HR.out _).mono ?_
          rintro e w2 ⟨rfl, rfl⟩
          go_wp2_with fail
          go_at_call 34
          refine (isspan_b wait false HW.out _).mono ?_
          rintro e w2 ⟨rfl, rfl⟩
          go_wp2_with fail
          go_ret2
          exact ⟨rfl, (by repeat (first | exact G.refl _ | refine G.alloc ?_ _ | refine G.drewN ?_ _ | refine G.drew ?_ | refine G.trans ?_ (by assumption)))⟩
      · have HR := Lib.hid (decide_eq_false hr)
        have HE : Hid (ltE M B C J first run wait = 2) := Lib.hid (by unfold ltE; rw [if_pos hok, if_pos hf, if_neg (fun h => hr h.1)])
        have HV : Hid (ltV M B C J first run wait = 0) := Lib.hid (by unfold ltV; rw [HE.out]; rfl)
        rw [HV.out, HE.out]
        clear hok hf hr HE HV
        go_enter Tryd.func19, Tryd.ntmps19
        go_wp2_with fail
        go_at_call 41
        refine (check_any M B C J _).mono ?_
        rintro e w1 ⟨rfl, g1⟩
        rw [HC.out]
        go_wp2_with fail
        go_at_call 42
        refine (istime_b first true HF.out _).mono ?_
        rintro e w2 ⟨rfl, rfl⟩
        go_wp2_with fail
        go_at_call 34
        refine (isspan_b run false HR.out _).mono ?_
        rintro e w2 ⟨rfl, rfl⟩
        go_wp2_with fail
        go_ret2
        exact ⟨rfl, (by repeat (first | exact G.refl _ | refine G.alloc ?_ _ | refine G.drewN ?_ _ | refine G.drew ?_ | refine G.trans ?_ (by assumption)))⟩
    · have HF := Lib.hid (decide_eq_false hf)
      have HE : Hid (ltE M B C J first run wait = 14) := Lib.hid (by unfold ltE; rw [if_pos hok, if_neg hf])
      have HV : Hid (ltV M B C J first run wait = 0) := Lib.hid (by unfold ltV; rw [HE.out]; rfl)
      rw [HV.out, HE.out]
      clear hok hf HE HV
      go_enter Tryd.func19, Tryd.ntmps19
      go_wp2_with fail
      go_at_call 41
      refine (check_any M B C J _).mono ?_
      rintro e w1 ⟨rfl, g1⟩
      rw [HC.out]
      go_wp2_with fail
      go_at_call 42
      refine (istime_b first false HF.out _).mono ?_
      rintro e w2 ⟨rfl, rfl⟩
      go_wp2_with fail
      go_ret2
      exact ⟨rfl, (by repeat (first | exact G.refl _ | refine G.alloc ?_ _ | refine G.drewN ?_ _ | refine G.drew ?_ | refine G.trans ?_ (by assumption)))⟩
  · have HC : Hid (chkE M B C J = 16) := Lib.hid (if_neg hok)
    have HE : Hid (ltE M B C J first run wait = 16) := Lib.hid (if_neg hok)
    have HV : Hid (ltV M B C J first run wait = 0) := Lib.hid (by unfold ltV; rw [HE.out]; rfl)
    rw [HV.out, HE.out]
    clear hok HE HV
    go_enter Tryd.func19, Tryd.ntmps19
    go_wp2_with fail
    go_at_call 41
    refine (check_any M B C J _).mono ?_
    rintro e w1 ⟨rfl, g1⟩
    rw [HC.out]
    go_wp2_with fail
    go_ret2
    exact ⟨rfl, (by repeat (first | exact G.refl _ | refine G.alloc ?_ _ | refine G.drewN ?_ _ | refine G.drew ?_ | refine G.trans ?_ (by assumption)))⟩
set_option maxHeartbeats 4000000 in
theorem rlatest_any (M B C J first run wait : Int) (w : World) :
    Calls Tryd.prog 20 #[.agg #[.int .i64 M, .int .i64 B, .int .i64 C, .int .i64 J], .int .i64 first, .int .i64 run, .int .i64 wait] w fun e w' => e = .returned (.tuple #[.int .i64 (ltV M B C J first run wait), .int .i64 (ltE M B C J first run wait)]) ∧ G w w' := by
  by_cases hok : okR M B C J
  · have HC : Hid (chkE M B C J = 0) := Lib.hid (if_pos hok)
    by_cases hf : tmB first
    · have HF := Lib.hid (decide_eq_true hf)
      by_cases hr : spB run
      · have HR := Lib.hid (decide_eq_true hr)
        by_cases hw : spB wait
        · have HW := Lib.hid (decide_eq_true hw)
          have HE : Hid (ltE M B C J first run wait = 0) := Lib.hid (by unfold ltE; rw [if_pos hok, if_pos hf, if_pos ⟨hr, hw⟩])
          obtain ⟨⟨m0, m1⟩, j0, j1⟩ := okR_bd hok
          have HOK := Lib.hid hok
          have HB := Lib.hid (fun k => rlS_bd (first := first) (run := run) (wait := wait) hok hf hr hw k)
          obtain ⟨f0, f1⟩ := id hf
          obtain ⟨r0, r1⟩ := id hr
          obtain ⟨x0, x1⟩ := id hw
          obtain ⟨m, rfl⟩ : ∃ m : Nat, M = m := ⟨M.toNat, by omega⟩
          have HV : Hid (ltV m B C J first run wait = rlS B C J first run wait m) := Lib.hid ((if_pos HE.out).trans (by rw [rlS_eq, Int.toNat_natCast]))
          rw [HV.out, HE.out]
          clear HV HE hok hf hr hw
          go_enter Tryd.func20, Tryd.ntmps20
          go_wp2_with fail
          go_at_call 43
          refine (rcheck_any _ B C J _).mono ?_
          rintro e w1 ⟨rfl, g1⟩
          rw [HC.out]
          have hb : Blk w1 w.heap.size 23 #[.int .i64 m, .int .i64 B, .int .i64 C, .int .i64 J] := Blk.g (Blk.new w _ _) g1
          have gW : G w w1 := ((G.refl w).alloc _).trans g1
          clear g1
          go_wp2_with fail
          go_at_call 44
          refine (rvalid_b first true HF.out _).mono ?_
          rintro e w2 ⟨rfl, rfl⟩
          go_wp2_with fail
          go_at_call 38
          refine (rspan_b run true HR.out _).mono ?_
          rintro e w2 ⟨rfl, rfl⟩
          go_wp2_with fail
          go_at_call 38
          refine (rspan_b wait true HW.out _).mono ?_
          rintro e w2 ⟨rfl, rfl⟩
          go_wp2_with fail
          go_loopw [10, 11] (fun tv kv wr => ∃ i : Nat, i ≤ m ∧ kv = .int .i64 ((i : Int) + 1) ∧ tv = .int .i64 (rlS B C J first run wait i) ∧ G w wr ∧ Blk wr w.heap.size 23 #[.int .i64 m, .int .i64 B, .int .i64 C, .int .i64 J]) (fun _ kv _ => m + 1 - (intOf kv).toNat)
          case atStart => exact ⟨0, by omega, rfl, rfl, gW, hb⟩
          case round =>
            clear hb gW
            obtain ⟨i, hi, rfl, rfl, hg, hb⟩ := hrel
            have c0 : wr.cell? ⟨w.heap.size, 0, none⟩ = some (.int .i64 m) := hb.cell 0
            by_cases hlt : i < m
            · have HW2 : Hid (waitI m B C J (i + 1) = wAt B C i) := Lib.hid (by unfold waitI; rw [if_pos ⟨HOK.out, by omega, by omega⟩]; congr 1; omega)
              obtain ⟨b0, b1, b2, -⟩ := wAt_bound HOK.out i
              obtain ⟨s0, s1⟩ := HB.out i
              have HS : Hid (rlS B C J first run wait (i + 1) = rlS B C J first run wait i + wAt B C i + wait + run + max (J - 1) 0) := Lib.hid rfl
              have c1 : wr.cell? ⟨w.heap.size, 1, none⟩ = some (.int .i64 B) := hb.cell 1
              have c2 : wr.cell? ⟨w.heap.size, 2, none⟩ = some (.int .i64 C) := hb.cell 2
              have c3 : wr.cell? ⟨w.heap.size, 3, none⟩ = some (.int .i64 J) := hb.cell 3
              have hil : (i : Int) + 1 ≤ m := by omega
              have s2 : rlS B C J first run wait i ≤ 390841254271 + 20 * 274877906944 := by omega
              clear s1
              generalize rlS B C J first run wait i = t at *
              go_wp2_with fail
              go_at_call 45
              refine (rbwait_any m B C J (i + 1) _).mono ?_
              rintro e w3 ⟨rfl, g3⟩
              rw [HW2.out]
              generalize waitE m B C J (i + 1) = we at *
              generalize wAt B C i = x at *
              replace hb := hb.g g3
              replace hg := hg.trans g3
              clear c0 c1 c2 c3 g3
              have c3 : w3.cell? ⟨w.heap.size, 3, none⟩ = some (.int .i64 J) := hb.cell 3
              rcases Int.lt_or_le 0 J with hj | hj
              · have HX : Hid (max (J - 1) 0 = J - 1) := Lib.hid (by omega)
                go_wp2_with fail
                go_roundw
                case rel => exact ⟨i + 1, by omega, by go_num, by rw [HS.out, HX.out]; congr 1; omega, hg, hb⟩
                case measure => simp [intOf]; omega
              · have HX : Hid (max (J - 1) 0 = 0) := Lib.hid (by omega)
                obtain rfl : J = 0 := by omega
                go_wp2_with fail
                go_roundw
                case rel => exact ⟨i + 1, by omega, by go_num, by rw [HS.out, HX.out, Int.add_zero], hg, hb⟩
                case measure => simp [intOf]; omega
            · obtain rfl : i = m := by omega
              have hil : decide ((i : Int) + 1 ≤ i) = false := by simp; omega
              go_wp2_with fail
              go_ret2
              exact ⟨rfl, hg⟩
        · have HW := Lib.hid (decide_eq_false hw)
          have HE : Hid (ltE M B C J first run wait = 2) := Lib.hid (by unfold ltE; rw [if_pos hok, if_pos hf, if_neg (fun h => hw h.2)])
          have HV : Hid (ltV M B C J first run wait = 0) := Lib.hid (by unfold ltV; rw [HE.out]; rfl)
          rw [HV.out, HE.out]
          clear hok hf hr hw HE HV
          go_enter Tryd.func20, Tryd.ntmps20
          go_wp2_with fail
          go_at_call 43
          refine (rcheck_any M B C J _).mono ?_
          rintro e w1 ⟨rfl, g1⟩
          rw [HC.out]
          go_wp2_with fail
          go_at_call 44
          refine (rvalid_b first true HF.out _).mono ?_
          rintro e w2 ⟨rfl, rfl⟩
          go_wp2_with fail
          go_at_call 38
          refine (rspan_b run true HR.out _).mono ?_
          rintro e w2 ⟨rfl, rfl⟩
          go_wp2_with fail
          go_at_call 38
          refine (rspan_b wait false HW.out _).mono ?_
          rintro e w2 ⟨rfl, rfl⟩
          go_wp2_with fail
          go_ret2
          exact ⟨rfl, (by repeat (first | exact G.refl _ | refine G.alloc ?_ _ | refine G.drewN ?_ _ | refine G.drew ?_ | refine G.trans ?_ (by assumption)))⟩
      · have HR := Lib.hid (decide_eq_false hr)
        have HE : Hid (ltE M B C J first run wait = 2) := Lib.hid (by unfold ltE; rw [if_pos hok, if_pos hf, if_neg (fun h => hr h.1)])
        have HV : Hid (ltV M B C J first run wait = 0) := Lib.hid (by unfold ltV; rw [HE.out]; rfl)
        rw [HV.out, HE.out]
        clear hok hf hr HE HV
        go_enter Tryd.func20, Tryd.ntmps20
        go_wp2_with fail
        go_at_call 43
        refine (rcheck_any M B C J _).mono ?_
        rintro e w1 ⟨rfl, g1⟩
        rw [HC.out]
        go_wp2_with fail
        go_at_call 44
        refine (rvalid_b first true HF.out _).mono ?_
        rintro e w2 ⟨rfl, rfl⟩
        go_wp2_with fail
        go_at_call 38
        refine (rspan_b run false HR.out _).mono ?_
        rintro e w2 ⟨rfl, rfl⟩
        go_wp2_with fail
        go_ret2
        exact ⟨rfl, (by repeat (first | exact G.refl _ | refine G.alloc ?_ _ | refine G.drewN ?_ _ | refine G.drew ?_ | refine G.trans ?_ (by assumption)))⟩
    · have HF := Lib.hid (decide_eq_false hf)
      have HE : Hid (ltE M B C J first run wait = 14) := Lib.hid (by unfold ltE; rw [if_pos hok, if_neg hf])
      have HV : Hid (ltV M B C J first run wait = 0) := Lib.hid (by unfold ltV; rw [HE.out]; rfl)
      rw [HV.out, HE.out]
      clear hok hf HE HV
      go_enter Tryd.func20, Tryd.ntmps20
      go_wp2_with fail
      go_at_call 43
      refine (rcheck_any M B C J _).mono ?_
      rintro e w1 ⟨rfl, g1⟩
      rw [HC.out]
      go_wp2_with fail
      go_at_call 44
      refine (rvalid_b first false HF.out _).mono ?_
      rintro e w2 ⟨rfl, rfl⟩
      go_wp2_with fail
      go_ret2
      exact ⟨rfl, (by repeat (first | exact G.refl _ | refine G.alloc ?_ _ | refine G.drewN ?_ _ | refine G.drew ?_ | refine G.trans ?_ (by assumption)))⟩
  · have HC : Hid (chkE M B C J = 16) := Lib.hid (if_neg hok)
    have HE : Hid (ltE M B C J first run wait = 16) := Lib.hid (if_neg hok)
    have HV : Hid (ltV M B C J first run wait = 0) := Lib.hid (by unfold ltV; rw [HE.out]; rfl)
    rw [HV.out, HE.out]
    clear hok HE HV
    go_enter Tryd.func20, Tryd.ntmps20
    go_wp2_with fail
    go_at_call 43
    refine (rcheck_any M B C J _).mono ?_
    rintro e w1 ⟨rfl, g1⟩
    rw [HC.out]
    go_wp2_with fail
    go_ret2
    exact ⟨rfl, (by repeat (first | exact G.refl _ | refine G.alloc ?_ _ | refine G.drewN ?_ _ | refine G.drew ?_ | refine G.trans ?_ (by assumption)))⟩
end Go.Proofs.YtanipfenioaigaaDoor
