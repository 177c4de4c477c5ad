/-
  Package backoff: Within and Longest.
-/
import Derived.Test.YtabgddiecddbhaaBkF
set_option linter.unusedVariables false
set_option linter.unusedSimpArgs false
namespace Go.Proofs.Ytabgddiecddbhaa
open Go.RowKit Go.Shelf
attribute [local go_sem] Oper.semAt_some

theorem prefix_range {p t : List Nat} {x m : Nat} (h : p ++ [x] ++ t = List.range m) : p = List.range x ∧ x < m := by
  have hl : p.length + 1 + t.length = m := by have := congrArg List.length h; simp at this; omega
  have h1 : p ++ [x] = List.range (p.length + 1) := by
    have := congrArg (List.take (p.length + 1)) h
    rw [List.take_append_of_le_length (by simp), List.take_of_length_le (by simp), List.take_range, Nat.min_eq_left (by omega)] at this
    exact this
  rw [List.range_succ] at h1
  obtain ⟨h2, h3⟩ := List.append_inj' h1 rfl
  have h3 : x = p.length := by simpa using h3
  exact ⟨by rw [h3]; exact h2, by omega⟩
theorem sumW_succ (B C : Int) (k : Nat) : sumW B C (List.range (k + 1)) = sumW B C (List.range k) + wAt B C k := by rw [List.range_succ, sumW_snoc]
theorem sumW_mono {M B C J : Int} (h : okR M B C J) {i j : Nat} (hij : i ≤ j) : sumW B C (List.range i) ≤ sumW B C (List.range j) := by
  induction j with
  | zero => obtain rfl : i = 0 := by omega
            exact Int.le_refl _
  | succ j ih =>
    by_cases e : i = j + 1
    · rw [e]; exact Int.le_refl _
    · have := ih (by omega)
      have hw := (wAt_bound h j).1
      rw [sumW_succ]; omega
def cntW (pre : List Nat) : Int := pre.foldl (fun (_ : Int) (x : Nat) => (x : Int) + 1) 0
theorem cntW_snoc (pre : List Nat) (x : Nat) : cntW (pre ++ [x]) = (x : Int) + 1 := by simp [cntW]
theorem cntW_range (k : Nat) : cntW (List.range k) = k := by
  cases k with
  | zero => rfl
  | succ k => rw [List.range_succ, cntW_snoc]; omega
/-- the first prefix of the waits that does not fit -/
def withO (M B C J s : Int) : Option Nat := (List.range M.toNat).find? (fun i => decide (s < sumW B C (List.range (i + 1))))
def withI (M B C J s : Int) : Int := if okR M B C J ∧ 0 ≤ s ∧ s ≤ 68719476736 then (match withO M B C J s with | some i => (i : Int) | none => M) else 0
def withE (M B C J s : Int) : Int := if okR M B C J then (if 0 ≤ s ∧ s ≤ 68719476736 then 0 else 2) else 16
theorem withO_none {M B C J s : Int} {m : Nat} (hok : okR M B C J) (h : sumW B C (List.range m) ≤ s) : withO m B C J s = none := by
  unfold withO
  rw [Int.toNat_natCast, List.find?_eq_none]
  intro y hy
  have h1 := List.mem_range.1 hy
  have := sumW_mono hok (show y + 1 ≤ m by omega)
  simp; omega
theorem withO_some {M B C J s : Int} {m x : Nat} (hok : okR M B C J) (hx : x < m) (h0 : sumW B C (List.range x) ≤ s) (h1 : s < sumW B C (List.range (x + 1))) : withO m B C J s = some x := by
  unfold withO
  rw [Int.toNat_natCast, List.find?_range_eq_some]
  refine ⟨by simpa using h1, by simpa using hx, fun j hj => ?_⟩
  have := sumW_mono hok (show j + 1 ≤ x by omega)
  simp; omega
set_option maxRecDepth 100000 in
set_option maxHeartbeats 2000000 in
theorem within_any (M B C J s : Int) (w : World) :
    Calls Try.prog 26 #[.agg #[.int .i64 M, .int .i64 B, .int .i64 C, .int .i64 J], .int .i64 s] w fun e w' => e = .returned (.tuple #[.int .i64 (withI M B C J s), .int .i64 (withE M B C J s)]) ∧ G w w' := by
  by_cases hok : okR M B C J
  · have HC : Hid (chkE M B C J = 0) := Lib.hid (if_pos hok)
    obtain ⟨m, rfl⟩ : ∃ m : Nat, M = m := ⟨M.toNat, by unfold okR at hok; omega⟩
    have hm : m ≤ 20 := by unfold okR at hok; omega
    by_cases hs : 0 ≤ s ∧ s ≤ 68719476736
    · have hI : withI m B C J s = (match withO m B C J s with | some i => (i : Int) | none => m) := if_pos ⟨hok, hs⟩
      have hE : withE m B C J s = 0 := by unfold withE; rw [if_pos hok, if_pos hs]
      rw [hE]
      have HI := Lib.hid hI
      clear hI hE
      have d0 : decide (s < 0) = false := by simp; omega
      have d1 : decide (68719476736 < s) = false := by simp; omega
      refine (callsIn_wide (n := 9)).1 (callsIn_of_wp_marks Try.func26 rfl trivial ?_ rfl)
      simp only [Try.ntmps26, List.size_toArray, List.length_cons, List.length_nil, Nat.reduceAdd, Nat.reduceSub, Array.replicate_succ, Array.replicate_zero, List.push_toArray, List.append_toArray, List.nil_append, List.cons_append]
      refine wpIn_wide.2 ?_
      go_wp2_with fail
      refine (check_any m B C J _).mono ?_
      rintro e w1 ⟨rfl, g1⟩
      rw [HC.out]
      have hr : Blk w1 w.heap.size 23 #[.int .i64 m, .int .i64 B, .int .i64 C, .int .i64 J] := Blk.g ((Blk.new w _ _).alloc _) g1
      have h1 : Blk w1 (w.heap.size + 1) 2 #[.int .i64 s] := Blk.g (Blk.new1 w _ _ _) g1
      have gW : G w w1 := (((G.refl w).alloc _).alloc _).trans g1
      have e1 : w.heap.size ≤ w.heap.size + 1 := by omega
      clear g1
      generalize w.heap.size + 1 = kS at *
      have c1 : w1.cell? ⟨kS, 0, none⟩ = some (.int .i64 s) := h1.cell 0
      have hr2 := hr.alloc (.cells #[.int .i64 0] 3)
      have hC := Blk.new w1 3 #[.int .i64 0]
      have x0 : (w1.alloc (.cells #[.int .i64 0] 3)).cell? ⟨w.heap.size, 0, none⟩ = some (.int .i64 m) := Blk.cell hr2 0
      have x1 : (w1.alloc (.cells #[.int .i64 0] 3)).cell? ⟨w.heap.size, 1, none⟩ = some (.int .i64 B) := Blk.cell hr2 1
      have x2 : (w1.alloc (.cells #[.int .i64 0] 3)).cell? ⟨w.heap.size, 2, none⟩ = some (.int .i64 C) := Blk.cell hr2 2
      have x3 : (w1.alloc (.cells #[.int .i64 0] 3)).cell? ⟨w.heap.size, 3, none⟩ = some (.int .i64 J) := Blk.cell hr2 3
      go_wp2_with fail
      refine (waits_any m B C J _).mono ?_
      rintro e w2 ⟨rfl, rfl⟩
      go_wp2_with fail
      refine (wpIn_wide (n := 9)).1 ?_
      clear x0 x1 x2 x3 c1 hr hr2
      have bR := Blk.new (w1.alloc (.cells #[.int .i64 0] 3)) 23 #[.int .i64 m, .int .i64 B, .int .i64 C, .int .i64 J]
      rw [World.size_alloc] at bR
      have hS3 := (h1.alloc (.cells #[.int .i64 0] 3)).alloc (.cells #[.int .i64 m, .int .i64 B, .int .i64 C, .int .i64 J] 23)
      have hC3 := hC.alloc (.cells #[.int .i64 m, .int .i64 B, .int .i64 C, .int .i64 J] 23)
      have gW3 := (gW.alloc (.cells #[.int .i64 0] 3)).alloc (.cells #[.int .i64 m, .int .i64 B, .int .i64 C, .int .i64 J] 23)
      have hbl := Blk.lt bR
      have nSC : kS ≠ w1.heap.size := by have := Blk.lt h1; omega
      have nRS : w1.heap.size + 1 ≠ kS := by have := Blk.lt h1; omega
      have nRC : w1.heap.size + 1 ≠ w1.heap.size := by omega
      have e2 : w.heap.size ≤ w1.heap.size := gW.size
      clear hC h1 gW
      generalize (w1.alloc (.cells #[.int .i64 0] 3)).alloc (.cells #[.int .i64 m, .int .i64 B, .int .i64 C, .int .i64 J] 23) = w3 at *
      generalize w1.heap.size + 1 = kR at *
      generalize w1.heap.size = kC at *
      refine wpIn_rangeFunc_ownF rfl (by omega) (gf := 30) (lb := #[.pointer (some ⟨kR, 0, none⟩)]) rfl trivial (enters_of Try.func30 (by kernel_rfl) rfl)
        (waits_stops 8 (by omega) m B C J hok kR w3 bR) keepR_t (keepR_b hbl) (Below.refl _ _) (fun _ => rfl)
        (fun pre W => sumW B C pre ≤ s ∧ Blk W kS 2 #[.int .i64 (s - sumW B C pre)] ∧ Blk W kC 3 #[.int .i64 (cntW pre)] ∧ G w W)
        (fun c pre W => c = .exit 0 ∧ ∃ p x, pre = p ++ [x] ∧ sumW B C p ≤ s ∧ s < sumW B C p + wAt B C x ∧ Blk W kC 3 #[.int .i64 (cntW p)] ∧ G w W)
        (OwnFrom.and (ownFrom_pure _ _) (OwnFrom.and (ownFrom_blk _ kS 2 (fun pre => #[.int .i64 (s - sumW B C pre)])) (OwnFrom.and (ownFrom_blk _ kC 3 (fun pre => #[.int .i64 (cntW pre)])) (ownFrom_g gW3.size))))
        (fun c s A D row hs hg hr => by
          obtain ⟨hc, p, x, hx, hy, hxk, hb1, hgg⟩ := hs
          exact ⟨hc, p, x, hx, hy, hxk, ownFrom_blk _ kC 3 (fun _ : List Nat => #[.int .i64 (cntW p)]) s A D row hb1 hg hr, ownFrom_g (β := List Nat) gW3.size s A D row hgg hg hr⟩)
        ⟨by simpa [sumW] using hs.1, by simpa [sumW] using hS3, hC3, gW3⟩ ?a1 ?assign ?body ?done ?stop
      case assign =>
        intro l x W K hK
        dsimp only [encW]
        gi_wp2
        exact hK
      case body =>
        rintro l pre x W ⟨hp, hb1, hb2, hg⟩ hlt2
        have c1 : W.cell? ⟨kS, 0, none⟩ = some (.int .i64 (s - sumW B C pre)) := hb1.cell 0
        have c2 : W.cell? ⟨kC, 0, none⟩ = some (.int .i64 (cntW pre)) := hb2.cell 0
        have f1 := hb1.frozen 0
        have f2 := hb2.frozen 0
        have hq1 := sumW_bound hok pre
        have hq2 := wAt_bound hok x
        have HS := Lib.hid (sumW_snoc B C pre x)
        have HN := Lib.hid (cntW_snoc pre x)
        have hpl : pre.length ≤ 20 := by omega
        by_cases hx : s - sumW B C pre < wAt B C x
        · have HX := Lib.hid hx
          gi_wp2
          exact ⟨KeepsOthers.refl _, rfl, pre, x, rfl, hp, by have := HX.out; omega, hb2, hg⟩
        · have hx' : decide (s - sumW B C pre < wAt B C x) = false := by simpa using hx
          gi_wp2
          exact ⟨(KeepsOthers.setCell _ _ _).trans (KeepsOthers.setCell _ _ _), keepR_t (keepR_set (by simpa using nRS) _) (keepR_set (by simpa using nRC) _), by rw [HS.out]; omega, Blk.int_eq ((hb1.set_ 0 _).far nSC _) (by rw [HS.out]; omega), by rw [HN.out]; exact (hb2.far (Ne.symm nSC) _).set_ 0 _, (hg.setCell (p := ⟨kS, 0, none⟩) e1 _).setCell (p := ⟨kC, 0, none⟩) e2 _⟩
      case done =>
        rintro D xs W hD rfl ⟨hp, hb1, hb2, hg⟩ hK
        have c2 : W.cell? ⟨kC, 0, none⟩ = some (.int .i64 (cntW (List.range m))) := hb2.cell 0
        have hv : withI m B C J s = cntW (List.range m) := by rw [HI.out, withO_none hok hp, cntW_range] <;> rfl
        go_wp2
        refine ⟨by simp, .inl ⟨_, _, rfl, run_takeDeferred hK, ?_⟩⟩
        exact ⟨_, results_tmp2 rfl _ _ _, by rw [hv]; rfl, hg.put _ (Nat.le_trans gW3.size hD) hK⟩
      case stop =>
        rintro D c pre W hD ⟨t, ht⟩ ⟨rfl, p, x, rfl, hy, hxk, hb1, hg⟩ hK
        obtain ⟨rfl, hxm⟩ := prefix_range ht
        have c2 : W.cell? ⟨kC, 0, none⟩ = some (.int .i64 (cntW (List.range x))) := hb1.cell 0
        have hv : withI m B C J s = cntW (List.range x) := by rw [HI.out, withO_some hok hxm hy (by rw [sumW_succ]; exact hxk), cntW_range] <;> rfl
        clear hxk hy
        refine wpIn_wide.2 ?_
        go_wp2
        refine ⟨by simp, .inl ⟨_, _, rfl, run_takeDeferred hK, ?_⟩⟩
        exact ⟨_, results_tmp2 rfl _ _ _, by rw [hv]; rfl, hg.put _ (Nat.le_trans gW3.size hD) hK⟩
    · have hI : withI m B C J s = 0 := if_neg (fun h => hs h.2)
      have hE : withE m B C J s = 2 := by unfold withE; rw [if_pos hok, if_neg hs]
      rw [hE, hI]
      clear hI hE hok
      go_enter Try.func26, Try.ntmps26
      go_wp2_with fail
      refine (check_any m B C J _).mono ?_
      rintro e w1 ⟨rfl, g1⟩
      rw [HC.out]
      have h1 : Blk w1 (w.heap.size + 1) 2 #[.int .i64 s] := Blk.g (Blk.new1 w _ _ _) g1
      have c1 : w1.cell? ⟨w.heap.size + 1, 0, none⟩ = some (.int .i64 s) := h1.cell 0
      have gW : G w w1 := (((G.refl w).alloc _).alloc _).trans g1
      by_cases h0 : s < 0
      · go_wp2_with fail
        go_ret2
        exact ⟨rfl, gW⟩
      · have d0 : decide (s < 0) = false := by simpa using h0
        have d1 : 68719476736 < s := by omega
        clear hs h0
        go_wp2_with fail
        go_ret2
        exact ⟨rfl, gW⟩
  · have HC : Hid (chkE M B C J = 16) := Lib.hid (if_neg hok)
    have HI : Hid (withI M B C J s = 0) := Lib.hid (if_neg (fun h => hok h.1))
    have HE : Hid (withE M B C J s = 16) := Lib.hid (if_neg hok)
    rw [HI.out, HE.out]
    clear hok
    go_enter Try.func26, Try.ntmps26
    go_wp2_with fail
    refine (check_any M B C J _).mono ?_
    rintro e w1 ⟨rfl, g1⟩
    rw [HC.out]
    go_wp2_with fail
    go_ret2
    exact ⟨rfl, (by repeat (first | exact G.refl _ | refine G.alloc ?_ _ | refine G.drewN ?_ _ | refine G.drew ?_ | refine G.trans ?_ (by assumption)))⟩

def longW (B C J : Int) (pre : List Nat) : Int := pre.foldl (fun a x => max a (wAt B C x + max (J - 1) 0)) 0
theorem longW_snoc (B C J : Int) (pre : List Nat) (x : Nat) : longW B C J (pre ++ [x]) = max (longW B C J pre) (wAt B C x + max (J - 1) 0) := by simp [longW]
def longI (M B C J : Int) : Int := if okR M B C J ∧ 1 ≤ M then wAt B C (M - 1).toNat + max (J - 1) 0 else 0
theorem wAt_mono {M B C J : Int} (h : okR M B C J) (k : Nat) : wAt B C k ≤ wAt B C (k + 1) := by
  have := wAt_bound h k
  show wAt B C k ≤ min (wAt B C k + wAt B C k) C
  omega
theorem longW_range {M B C J : Int} (h : okR M B C J) (k : Nat) : longW B C J (List.range (k + 1)) = wAt B C k + max (J - 1) 0 := by
  induction k with
  | zero =>
    have := wAt_bound h 0
    rw [List.range_succ, longW_snoc]
    show max 0 _ = _
    omega
  | succ k ih =>
    have := wAt_mono h k
    rw [List.range_succ, longW_snoc, ih]; omega
theorem longW_bound {M B C J : Int} (h : okR M B C J) (pre : List Nat) : 0 ≤ longW B C J pre ∧ longW B C J pre ≤ 137438953472 := by
  have hJ : J ≤ 68719476736 := by unfold okR at h; omega
  have key : ∀ (pre : List Nat) (a : Int), 0 ≤ a → a ≤ 137438953472 → 0 ≤ pre.foldl (fun a x => max a (wAt B C x + max (J - 1) 0)) a ∧ pre.foldl (fun a x => max a (wAt B C x + max (J - 1) 0)) a ≤ 137438953472 := by
    intro pre
    induction pre with
    | nil => exact fun a h0 h1 => ⟨h0, h1⟩
    | cons x pre ih =>
      intro a h0 h1
      have := wAt_bound h x
      exact ih (max a (wAt B C x + max (J - 1) 0)) (by omega) (by omega)
  exact key pre 0 (by omega) (by omega)
set_option maxRecDepth 100000 in
set_option maxHeartbeats 2000000 in
theorem longest_any (M B C J : Int) (w : World) :
    Calls Try.prog 24 #[.agg #[.int .i64 M, .int .i64 B, .int .i64 C, .int .i64 J]] w fun e w' => e = .returned (.tuple #[.int .i64 (longI M B C J), .int .i64 (chkE M B C J)]) ∧ G w w' := by
  by_cases hok : okR M B C J
  · have HC : Hid (chkE M B C J = 0) := Lib.hid (if_pos hok)
    obtain ⟨m, rfl⟩ : ∃ m : Nat, M = m := ⟨M.toNat, by unfold okR at hok; omega⟩
    have hm : m ≤ 20 := by unfold okR at hok; omega
    have hv : longI m B C J = longW B C J (List.range m) := by
      unfold longI
      cases m with
      | zero => rw [if_neg (by intro h; have := h.2; omega)]; rfl
      | succ k => rw [if_pos ⟨hok, by omega⟩, longW_range hok]; congr 2; omega
    rw [HC.out, hv]
    clear hv
    refine (callsIn_wide (n := 9)).1 (callsIn_of_wp_marks Try.func24 rfl trivial ?_ rfl)
    simp only [Try.ntmps24, List.size_toArray, List.length_cons, List.length_nil, Nat.reduceAdd, Nat.reduceSub, Array.replicate_succ, Array.replicate_zero, List.push_toArray, List.append_toArray, List.nil_append, List.cons_append]
    refine wpIn_wide.2 ?_
    go_wp2_with fail
    refine (check_any m B C J _).mono ?_
    rintro e w1 ⟨rfl, g1⟩
    rw [HC.out]
    have hr : Blk w1 w.heap.size 23 #[.int .i64 m, .int .i64 B, .int .i64 C, .int .i64 J] := Blk.g (Blk.new w _ _) g1
    have gW : G w w1 := ((G.refl w).alloc _).trans g1
    clear g1
    have hr2 := hr.alloc (.cells #[.int .i64 0] 2)
    have hC := Blk.new w1 2 #[.int .i64 0]
    have x0 : (w1.alloc (.cells #[.int .i64 0] 2)).cell? ⟨w.heap.size, 0, none⟩ = some (.int .i64 m) := Blk.cell hr2 0
    have x1 : (w1.alloc (.cells #[.int .i64 0] 2)).cell? ⟨w.heap.size, 1, none⟩ = some (.int .i64 B) := Blk.cell hr2 1
    have x2 : (w1.alloc (.cells #[.int .i64 0] 2)).cell? ⟨w.heap.size, 2, none⟩ = some (.int .i64 C) := Blk.cell hr2 2
    have x3 : (w1.alloc (.cells #[.int .i64 0] 2)).cell? ⟨w.heap.size, 3, none⟩ = some (.int .i64 J) := Blk.cell hr2 3
    go_wp2_with fail
    refine (waits_any m B C J _).mono ?_
    rintro e w2 ⟨rfl, rfl⟩
    go_wp2_with fail
    refine (wpIn_wide (n := 9)).1 ?_
    have bR := Blk.new (w1.alloc (.cells #[.int .i64 0] 2)) 23 #[.int .i64 m, .int .i64 B, .int .i64 C, .int .i64 J]
    rw [World.size_alloc] at bR
    have hr3 := hr2.alloc (.cells #[.int .i64 m, .int .i64 B, .int .i64 C, .int .i64 J] 23)
    have hC3 := hC.alloc (.cells #[.int .i64 m, .int .i64 B, .int .i64 C, .int .i64 J] 23)
    have gW3 := (gW.alloc (.cells #[.int .i64 0] 2)).alloc (.cells #[.int .i64 m, .int .i64 B, .int .i64 C, .int .i64 J] 23)
    have hbl := Blk.lt bR
    have nRC : w1.heap.size + 1 ≠ w1.heap.size := by omega
    have nrC : w.heap.size ≠ w1.heap.size := by have := Blk.lt hr; omega
    have e2 : w.heap.size ≤ w1.heap.size := gW.size
    clear hC hr2 hr gW x0 x1 x2 x3
    generalize (w1.alloc (.cells #[.int .i64 0] 2)).alloc (.cells #[.int .i64 m, .int .i64 B, .int .i64 C, .int .i64 J] 23) = w3 at *
    generalize w1.heap.size + 1 = kR at *
    generalize w1.heap.size = kC at *
    obtain ⟨kP, hkP⟩ : ∃ kP, w.heap.size = kP := ⟨_, rfl⟩
    rw [hkP] at hr3 nrC
    refine wpIn_rangeFunc_ownF rfl (by omega) (gf := 30) (lb := #[.pointer (some ⟨kR, 0, none⟩)]) rfl trivial (enters_of Try.func30 (by kernel_rfl) rfl)
      (waits_stops 8 (by omega) m B C J hok kR w3 bR) keepR_t (keepR_b hbl) (Below.refl _ _) (fun _ => rfl)
      (fun pre W => Blk W kP 23 #[.int .i64 m, .int .i64 B, .int .i64 C, .int .i64 J] ∧ Blk W kC 2 #[.int .i64 (longW B C J pre)] ∧ G w W) (fun _ _ _ => False)
      (OwnFrom.and (ownFrom_blk _ kP 23 (fun _ => #[.int .i64 m, .int .i64 B, .int .i64 C, .int .i64 J])) (OwnFrom.and (ownFrom_blk _ kC 2 (fun pre => #[.int .i64 (longW B C J pre)])) (ownFrom_g gW3.size)))
      (fun _ _ _ _ _ hs _ _ => hs) ⟨hr3, hC3, gW3⟩ ?a1 ?assign ?body ?done ?stop
    case assign =>
      intro l x W K hK
      dsimp only [encW]
      gi_wp2
      exact hK
    case body =>
      rintro l pre x W ⟨hb, hb1, hg⟩ hlt2
      have c0 : W.cell? ⟨kP, 3, none⟩ = some (.int .i64 J) := hb.cell 3
      have c1 : W.cell? ⟨kC, 0, none⟩ = some (.int .i64 (longW B C J pre)) := hb1.cell 0
      have f1 := hb1.frozen 0
      have hq1 := longW_bound hok pre
      have hq2 := wAt_bound hok x
      have hJ : 0 ≤ J ∧ J ≤ 68719476736 := by unfold okR at hok; omega
      have HS := Lib.hid (longW_snoc B C J pre x)
      gi_wp2
      all_goals exact ⟨KeepsOthers.setCell _ _ _, keepR_set (by simpa using nRC) _, hb.far nrC _, Blk.int_eq (hb1.set_ 0 _) (by rw [HS.out]; omega), hg.setCell (p := ⟨kC, 0, none⟩) e2 _⟩
    case done =>
      rintro D xs W hD rfl ⟨hb, hb1, hg⟩ hK
      have c1 : W.cell? ⟨kC, 0, none⟩ = some (.int .i64 (longW B C J (List.range m))) := hb1.cell 0
      go_wp2
      refine ⟨by simp, .inl ⟨_, _, rfl, run_takeDeferred hK, ?_⟩⟩
      exact ⟨_, results_tmp2 rfl _ _ _, rfl, hg.put _ (Nat.le_trans gW3.size hD) hK⟩
    case stop =>
      rintro D c pre W _ _ h _
      exact h.elim
  · have HC : Hid (chkE M B C J = 16) := Lib.hid (if_neg hok)
    have HT : Hid (longI M B C J = 0) := Lib.hid (if_neg (fun h => hok h.1))
    rw [HT.out, HC.out]
    clear hok
    go_enter Try.func24, Try.ntmps24
    go_wp2_with fail
    refine (check_any M B C J _).mono ?_
    rintro e w1 ⟨rfl, g1⟩
    rw [HC.out]
    go_wp2_with fail
    go_ret2
    exact ⟨rfl, (by repeat (first | exact G.refl _ | refine G.alloc ?_ _ | refine G.drewN ?_ _ | refine G.drew ?_ | refine G.trans ?_ (by assumption)))⟩
end Go.Proofs.Ytabgddiecddbhaa
