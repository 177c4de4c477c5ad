/-
  Package backoff: the callers of the iterator.
-/
import Derived.Test.YtabgddiecddbhaaBkW
import Derived.Maps.AppendAt
set_option linter.unusedVariables false
set_option linter.unusedSimpArgs false
namespace Go.Proofs.Ytabgddiecddbhaa
open Go.RowKit Go.Shelf
attribute [local go_sem] Oper.semAt_some

def sumW (B C : Int) (pre : List Nat) : Int := (pre.map (wAt B C)).sum
theorem sumW_snoc (B C : Int) (pre : List Nat) (x : Nat) : sumW B C (pre ++ [x]) = sumW B C pre + wAt B C x := by simp [sumW]
theorem sumW_bound {M B C J : Int} (h : okR M B C J) (pre : List Nat) : 0 ≤ sumW B C pre ∧ sumW B C pre ≤ 68719476736 * pre.length := by
  induction pre with
  | nil => simp [sumW]
  | cons x pre ih =>
    have := wAt_bound h x
    simp only [sumW, List.map_cons, List.sum_cons, List.length_cons] at ih ⊢
    omega
def totI (M B C J : Int) : Int := if okR M B C J then sumW B C (List.range M.toNat) else 0

set_option maxRecDepth 100000 in
set_option maxHeartbeats 2000000 in
theorem total_any (M B C J : Int) (w : World) :
    Calls Try.prog 19 #[.agg #[.int .i64 M, .int .i64 B, .int .i64 C, .int .i64 J]] w fun e w' => e = .returned (.tuple #[.int .i64 (totI M B C J), .int .i64 (chkE M B C J)]) ∧ G w w' := by
  by_cases hok : okR M B C J
  · have HC : Hid (chkE M B C J = 0) := Lib.hid (if_pos hok)
    have HT : Hid (totI M B C J = sumW B C (List.range M.toNat)) := Lib.hid (if_pos hok)
    obtain ⟨m, rfl⟩ : ∃ m : Nat, M = m := ⟨M.toNat, by unfold okR at hok; omega⟩
    rw [HT.out, HC.out, Int.toNat_natCast]
    have hm : m ≤ 20 := by unfold okR at hok; omega
    refine (callsIn_wide (n := 9)).1 (callsIn_of_wp_marks Try.func19 rfl trivial ?_ rfl)
    simp only [Try.ntmps19, List.size_toArray, List.length_cons, List.length_nil, Nat.reduceAdd, Nat.reduceSub, Array.replicate_succ, Array.replicate_zero, List.push_toArray, List.append_toArray, List.nil_append, List.cons_append]
    refine wpIn_wide.2 ?_
    go_wp2_with fail
    refine (check_any m B C J _).mono ?_
    rintro e w1 ⟨rfl, g1⟩
    rw [HC.out]
    have b1 : RuleAt w1 w.heap.size m B C J := Blk.g (Blk.new w _ _) g1
    have gW1 : G w w1 := ((G.refl w).alloc _).trans g1
    have hS := Blk.new w1 2 #[.int .i64 0]
    have b2 : RuleAt (w1.alloc (.cells #[.int .i64 0] 2)) w.heap.size m B C J := Blk.alloc b1 _
    have gW2 : G w (w1.alloc (.cells #[.int .i64 0] 2)) := gW1.alloc _
    have hlt := Blk.lt b1
    have x0 : (w1.alloc (.cells #[.int .i64 0] 2)).cell? ⟨w.heap.size, 0, none⟩ = some (.int .i64 m) := Blk.cell b2 0
    have x1 : (w1.alloc (.cells #[.int .i64 0] 2)).cell? ⟨w.heap.size, 1, none⟩ = some (.int .i64 B) := Blk.cell b2 1
    have x2 : (w1.alloc (.cells #[.int .i64 0] 2)).cell? ⟨w.heap.size, 2, none⟩ = some (.int .i64 C) := Blk.cell b2 2
    have x3 : (w1.alloc (.cells #[.int .i64 0] 2)).cell? ⟨w.heap.size, 3, none⟩ = some (.int .i64 J) := Blk.cell b2 3
    clear g1
    go_wp2_with fail
    refine (waits_any m B C J _).mono ?_
    rintro e w2 ⟨rfl, rfl⟩
    go_wp2_with fail
    refine (wpIn_wide (n := 9)).1 ?_
    have bR := Blk.new (w1.alloc (.cells #[.int .i64 0] 2)) 23 #[.int .i64 m, .int .i64 B, .int .i64 C, .int .i64 J]
    rw [World.size_alloc] at bR
    have hS2 := hS.alloc (.cells #[.int .i64 m, .int .i64 B, .int .i64 C, .int .i64 J] 23)
    have gW3 := gW2.alloc (.cells #[.int .i64 m, .int .i64 B, .int .i64 C, .int .i64 J] 23)
    have hsz : w.heap.size ≤ w1.heap.size := by omega
    have hbl := Blk.lt bR
    clear x0 x1 x2 x3 hS b1 b2 gW1 gW2
    generalize (w1.alloc (.cells #[.int .i64 0] 2)).alloc (.cells #[.int .i64 m, .int .i64 B, .int .i64 C, .int .i64 J] 23) = w3 at *
    generalize w1.heap.size = kS at *
    have hne : kS + 1 ≠ kS := by omega
    have hne2 : w.heap.size ≤ kS + 1 := by omega
    generalize kS + 1 = kR at *
    refine wpIn_rangeFunc_ownF rfl (by omega) (gf := 30) (lb := #[.pointer (some ⟨kR, 0, none⟩)]) rfl trivial (enters_of Try.func30 (by kernel_rfl) rfl)
      (waits_stops 8 (by omega) m B C J hok kR w3 bR) keepR_t (keepR_b hbl) (Below.refl _ _) (fun _ => rfl)
      (fun pre W => Blk W kS 2 #[.int .i64 (sumW B C pre)] ∧ G w W) (fun _ _ _ => False)
      (OwnFrom.and (ownFrom_blk _ kS 2 (fun pre => #[.int .i64 (sumW B C pre)])) (ownFrom_g gW3.size))
      (fun _ _ _ _ _ hs _ _ => hs) ⟨hS2, gW3⟩ ?a1 ?assign ?body ?done ?stop
    case assign =>
      intro l x W K hK
      dsimp only [encW]
      gi_wp2
      exact hK
    case body =>
      rintro l pre x W ⟨hs, hg⟩ hlt2
      have c0 : W.cell? ⟨kS, 0, none⟩ = some (.int .i64 (sumW B C pre)) := hs.cell 0
      have f0 := hs.frozen 0
      have hb1 := sumW_bound hok pre
      have hb2 := wAt_bound hok x
      have HS := Lib.hid (sumW_snoc B C pre x)
      have hpl : pre.length ≤ 20 := by omega
      gi_wp2
      exact ⟨KeepsOthers.setCell _ _ _, keepR_set (by simpa using hne) _, by rw [HS.out]; exact hs.set_ 0 _, hg.setCell (p := ⟨kS, 0, none⟩) hsz _⟩
    case done =>
      rintro D xs W hD rfl ⟨hs, hg⟩ hK
      have c0 : W.cell? ⟨kS, 0, none⟩ = some (.int .i64 (sumW B C (List.range m))) := hs.cell 0
      go_wp2
      refine ⟨by simp, .inl ⟨_, _, rfl, run_takeDeferred hK, ?_⟩⟩
      exact ⟨_, results_tmp2 rfl _ _ _, rfl, hg.put _ (Nat.le_trans gW3.size hD) hK⟩
    case stop =>
      rintro D c pre W _ _ h _
      exact h.elim
  · have HC : Hid (chkE M B C J = 16) := Lib.hid (if_neg hok)
    have HT : Hid (totI M B C J = 0) := Lib.hid (if_neg hok)
    rw [HT.out, HC.out]
    clear hok
    go_enter Try.func19, Try.ntmps19
    go_wp2_with fail
    refine (check_any M B C J _).mono ?_
    rintro e w1 ⟨rfl, g1⟩
    rw [HC.out]
    go_wp2_with fail
    go_ret2
    exact ⟨rfl, (by repeat (first | exact G.refl _ | refine G.alloc ?_ _ | refine G.drewN ?_ _ | refine G.drew ?_ | refine G.trans ?_ (by assumption)))⟩

/-- all waits -/
def waitsL (M B C J : Int) : List Int := if okR M B C J then (List.range M.toNat).map (wAt B C) else []
def lstW (B C : Int) (pre : List Nat) : List Value := pre.map (fun k => .int .i64 (wAt B C k))
theorem lstW_snoc (B C : Int) (pre : List Nat) (x : Nat) : lstW B C (pre ++ [x]) = lstW B C pre ++ [.int .i64 (wAt B C x)] := by simp [lstW]
theorem lstW_len (B C : Int) (pre : List Nat) : (lstW B C pre).length = pre.length := by simp [lstW]
theorem lstW_eq (B C : Int) (m : Nat) : lstW B C (List.range m) = vI .i64 ((List.range m).map (wAt B C)) := by simp [lstW, vI]
theorem info_i64 : (Try.prog.info? 2).map (fun i => (i.zero, i.size, i.bytes)) = some (some (.int .i64 0), 1, 8) := by kernel_rfl
set_option maxRecDepth 100000 in
set_option maxHeartbeats 2000000 in
theorem list_any (M B C J : Int) (w : World) :
    Calls Try.prog 17 #[.agg #[.int .i64 M, .int .i64 B, .int .i64 C, .int .i64 J]] w fun e w' => ∃ v, e = .returned (.tuple #[v, .int .i64 (chkE M B C J)]) ∧ w'.ownsRow w.heap.size 2 1 v (waitsL M B C J).length (vI .i64 (waitsL M B C J)) ∧ G w w' := by
  by_cases hok : okR M B C J
  · have HC : Hid (chkE M B C J = 0) := Lib.hid (if_pos hok)
    have HT : Hid (waitsL M B C J = (List.range M.toNat).map (wAt B C)) := Lib.hid (if_pos hok)
    obtain ⟨m, rfl⟩ : ∃ m : Nat, M = m := ⟨M.toNat, by unfold okR at hok; omega⟩
    rw [HT.out, HC.out, Int.toNat_natCast]
    have hm : m ≤ 20 := by unfold okR at hok; omega
    obtain ⟨i0, hi, hz0, hz1, hz2⟩ := info_parts info_i64
    refine (callsIn_wide (n := 9)).1 (callsIn_of_wp_marks Try.func17 rfl trivial ?_ rfl)
    simp only [Try.ntmps17, List.size_toArray, List.length_cons, List.length_nil, Nat.reduceAdd, Nat.reduceSub, Array.replicate_succ, Array.replicate_zero, List.push_toArray, List.append_toArray, List.nil_append, List.cons_append]
    refine wpIn_wide.2 ?_
    go_wp2_with fail
    refine (check_any m B C J _).mono ?_
    rintro e w1 ⟨rfl, g1⟩
    rw [HC.out]
    have b1 : RuleAt w1 w.heap.size m B C J := Blk.g (Blk.new w _ _) g1
    have gW1 : G w w1 := ((G.refl w).alloc _).trans g1
    have hS : Boxed (w1.alloc (.cells #[.slice none 0 0] 30)) w1.heap.size 30 (.slice none 0 0) := Boxed.new w1 30 (.slice none 0 0)
    have b2 : RuleAt (w1.alloc (.cells #[.slice none 0 0] 30)) w.heap.size m B C J := Blk.alloc b1 _
    have gW2 : G w (w1.alloc (.cells #[.slice none 0 0] 30)) := gW1.alloc _
    have hlt := Blk.lt b1
    have x0 : (w1.alloc (.cells #[.slice none 0 0] 30)).cell? ⟨w.heap.size, 0, none⟩ = some (.int .i64 m) := Blk.cell b2 0
    have x1 : (w1.alloc (.cells #[.slice none 0 0] 30)).cell? ⟨w.heap.size, 1, none⟩ = some (.int .i64 B) := Blk.cell b2 1
    have x2 : (w1.alloc (.cells #[.slice none 0 0] 30)).cell? ⟨w.heap.size, 2, none⟩ = some (.int .i64 C) := Blk.cell b2 2
    have x3 : (w1.alloc (.cells #[.slice none 0 0] 30)).cell? ⟨w.heap.size, 3, none⟩ = some (.int .i64 J) := Blk.cell b2 3
    clear g1
    go_wp2_with fail
    refine (waits_any m B C J _).mono ?_
    rintro e w2 ⟨rfl, rfl⟩
    go_wp2_with fail
    refine (wpIn_wide (n := 9)).1 ?_
    have bR := Blk.new (w1.alloc (.cells #[.slice none 0 0] 30)) 23 #[.int .i64 m, .int .i64 B, .int .i64 C, .int .i64 J]
    rw [World.size_alloc] at bR
    have hS2 := hS.alloc (.cells #[.int .i64 m, .int .i64 B, .int .i64 C, .int .i64 J] 23)
    have gW3 := gW2.alloc (.cells #[.int .i64 m, .int .i64 B, .int .i64 C, .int .i64 J] 23)
    have hsz : w.heap.size ≤ w1.heap.size := by omega
    have hbl := Blk.lt bR
    clear x0 x1 x2 x3 hS b1 b2 gW1 gW2
    generalize (w1.alloc (.cells #[.slice none 0 0] 30)).alloc (.cells #[.int .i64 m, .int .i64 B, .int .i64 C, .int .i64 J] 23) = w3 at *
    generalize w1.heap.size = kS at *
    have hne : kS + 1 ≠ kS := by omega
    have hne2 : w.heap.size ≤ kS + 1 := by omega
    generalize kS + 1 = kR at *
    refine wpIn_rangeFunc_ownG rfl (by omega) (gf := 30) (lb := #[.pointer (some ⟨kR, 0, none⟩)]) rfl trivial (enters_of Try.func30 (by kernel_rfl) rfl)
      (waits_stops 8 (by omega) m B C J hok kR w3 bR) keepR_t (keepR_b hbl) (Below.refl _ _) (fun _ => rfl)
      (fun pre W => (∃ v, Boxed W kS 30 v ∧ W.ownsRow w.heap.size 2 1 v pre.length (lstW B C pre) ∧ True) ∧ RuleAt W kR m B C J ∧ G w W) (fun _ _ _ => False)
      (OwnFrom.and (Own.from (holdsRow_own w.heap.size kS 30 2 1 (fun pre => pre.length) (fun pre => lstW B C pre) (fun _ _ => True)) _) (OwnFrom.and (ownFrom_blk _ kR 23 (fun _ => #[.int .i64 m, .int .i64 B, .int .i64 C, .int .i64 J])) (ownFrom_g gW3.size)))
      (fun _ _ _ _ _ hs _ _ => hs) ⟨⟨_, hS2, World.ownsRow_nil _ _ _ _, trivial⟩, bR, gW3⟩ ?a1 ?assign ?body ?done ?stop
    case assign =>
      intro l x W K hK
      dsimp only [encW]
      gi_wp2
      exact hK
    case body =>
      rintro l pre x W ⟨⟨v, hv, hrow, -⟩, bW, hg⟩ hlt2
      have hc := hv.cell
      have HS := Lib.hid (lstW_snoc B C pre x)
      have hpl : pre.length ≤ 20 := by omega
      gi_wp2_with (gi_at_builtin; refine wpListIn_append_own _ rfl _ _ 30 rfl w.heap.size 2 i0 (.int .i64 0) 1 8 Try.underlying30 hi hz0 hz1 hz2 rfl (by decide) _ _ _ rfl (hrow.alloc _) ⟨W.heap.size, 0, none⟩ 1 1 [.int .i64 (wAt B C x)] rfl rfl (cell_one_new _ _ _) (by simp [Value.oneCell']) (by simp [maxLen]; omega) (by omega) (by have := hg.size; simp; omega) ?_; intro v' w1 hown' hgrow _; obtain ⟨g', cap', rfl⟩ := ownsRow_succ hown'; obtain ⟨hv1, hv2, hr2, hk2, hb2⟩ := hv.appended (by decide) hrow hg.size hsz hown' hgrow; have hc1 := hv1.cell; have hf1 := hv1.frozen)
      have bF : RuleAt (w1.setCell ⟨kS, 0, none⟩ (.slice (some ⟨g', 0, none⟩) (pre.length + 1) cap')) kR m B C J := Blk.far (Blk.grown (Blk.alloc bW _) hgrow (Blk.not_row bW (by decide) hrow)) (by simpa using hne) _
      exact ⟨hk2.from _, fun _ => bF, ⟨_, hv2, by rw [HS.out, List.length_append]; exact hr2, trivial⟩, bF, Below.trans hg hb2⟩
    case done =>
      rintro D xs W hD rfl ⟨⟨v, hv, hrow, -⟩, bW, hg⟩ hK
      have c0 := hv.cell
      go_wp2
      refine ⟨by simp, .inl ⟨_, _, rfl, run_takeDeferred hK, ?_⟩⟩
      exact ⟨_, results_tmp2 rfl _ _ _, v, rfl, by rw [List.length_map, ← lstW_eq]; exact ownsRow_putObj hrow _ hK rfl, hg.put _ (Nat.le_trans gW3.size hD) hK⟩
    case stop =>
      rintro D c pre W _ _ h _
      exact h.elim
  · have HC : Hid (chkE M B C J = 16) := Lib.hid (if_neg hok)
    have HT : Hid (waitsL M B C J = []) := Lib.hid (if_neg hok)
    rw [HT.out, HC.out]
    clear hok
    go_enter Try.func17, Try.ntmps17
    go_wp2_with fail
    refine (check_any M B C J _).mono ?_
    rintro e w1 ⟨rfl, g1⟩
    rw [HC.out]
    go_wp2_with fail
    go_ret2
    exact ⟨_, rfl, World.ownsRow_nil _ _ _ _, (by repeat (first | exact G.refl _ | refine G.alloc ?_ _ | refine G.drewN ?_ _ | refine G.drew ?_ | refine G.trans ?_ (by assumption)))⟩
end Go.Proofs.Ytabgddiecddbhaa
