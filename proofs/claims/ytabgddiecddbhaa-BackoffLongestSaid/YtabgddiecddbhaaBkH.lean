/-
  Package backoff: the other callers of the iterator: Wait, Reaches, Within, Longest.
-/
import Derived.Test.YtabgddiecddbhaaBkF
set_option linter.unusedVariables false
set_option linter.unusedSimpArgs false
namespace Go.Proofs.Ytabgddiecddbhaa
open Go.RowKit Go.Shelf
attribute [local go_sem] Oper.semAt_some

/-- what Wait returns -/
def waitI (M B C J k : Int) : Int := if okR M B C J ∧ 1 ≤ k ∧ k ≤ M then wAt B C (k - 1).toNat else 0
def waitE (M B C J k : Int) : Int := if okR M B C J then (if 1 ≤ k ∧ k ≤ M then 0 else 3) else 16
set_option maxRecDepth 100000 in
set_option maxHeartbeats 2000000 in
theorem wait_any (M B C J k : Int) (w : World) :
    Calls Try.prog 12 #[.agg #[.int .i64 M, .int .i64 B, .int .i64 C, .int .i64 J], .int .i64 k] w fun e w' => e = .returned (.tuple #[.int .i64 (waitI M B C J k), .int .i64 (waitE M B C J k)]) ∧ G w w' := by
  by_cases hok : okR M B C J
  · have HC : Hid (chkE M B C J = 0) := Lib.hid (if_pos hok)
    have HT : Hid (waitE M B C J k = if 1 ≤ k ∧ k ≤ M then 0 else 3) := Lib.hid (if_pos hok)
    obtain ⟨m, rfl⟩ : ∃ m : Nat, M = m := ⟨M.toNat, by unfold okR at hok; omega⟩
    have hm : m ≤ 20 := by unfold okR at hok; omega
    refine (callsIn_wide (n := 9)).1 (callsIn_of_wp_marks Try.func12 rfl trivial ?_ rfl)
    simp only [Try.ntmps12, List.size_toArray, List.length_cons, List.length_nil, Nat.reduceAdd, Nat.reduceSub, Array.replicate_succ, Array.replicate_zero, List.push_toArray, List.append_toArray, List.nil_append, List.cons_append]
    refine wpIn_wide.2 ?_
    go_wp2_with fail
    refine (check_any m B C J _).mono ?_
    rintro e w1 ⟨rfl, g1⟩
    rw [HC.out]
    have hr : Blk w1 w.heap.size 23 #[.int .i64 m, .int .i64 B, .int .i64 C, .int .i64 J] := Blk.g ((((Blk.new w _ _).alloc _).alloc _).alloc _) g1
    have hk : Blk w1 (w.heap.size + 1) 3 #[.int .i64 k] := Blk.g (((Blk.new1 w _ _ _).alloc _).alloc _) g1
    have h1 : Blk w1 (w.heap.size + 1 + 1) 2 #[.int .i64 0] := Blk.g ((Blk.new2 w _ _ _ _).alloc _) g1
    have h2 : Blk w1 (w.heap.size + 1 + 1 + 1) 24 #[.int .i64 0] := Blk.g (Blk.new3 w _ _ _ _ _) g1
    have gW : G w w1 := (((((G.refl w).alloc _).alloc _).alloc _).alloc _).trans g1
    have e1 : w.heap.size ≤ w.heap.size + 1 + 1 := by omega
    have e2 : w.heap.size ≤ w.heap.size + 1 + 1 + 1 := by omega
    have n12 : w.heap.size + 1 + 1 ≠ w.heap.size + 1 + 1 + 1 := by omega
    have nk1 : w.heap.size + 1 ≠ w.heap.size + 1 + 1 := by omega
    have nk2 : w.heap.size + 1 ≠ w.heap.size + 1 + 1 + 1 := by omega
    clear g1
    generalize w.heap.size + 1 + 1 + 1 = k2 at *
    generalize w.heap.size + 1 + 1 = k1 at *
    generalize w.heap.size + 1 = kk at *
    have x0 : w1.cell? ⟨w.heap.size, 0, none⟩ = some (.int .i64 m) := Blk.cell hr 0
    have x1 : w1.cell? ⟨w.heap.size, 1, none⟩ = some (.int .i64 B) := Blk.cell hr 1
    have x2 : w1.cell? ⟨w.heap.size, 2, none⟩ = some (.int .i64 C) := Blk.cell hr 2
    have x3 : w1.cell? ⟨w.heap.size, 3, none⟩ = some (.int .i64 J) := Blk.cell hr 3
    go_wp2_with fail
    refine (waits_any m B C J _).mono ?_
    rintro e w2 ⟨rfl, rfl⟩
    go_wp2_with fail
    refine (wpIn_wide (n := 9)).1 ?_
    clear x0 x1 x2 x3 hr
    have bR := Blk.new w1 23 #[.int .i64 m, .int .i64 B, .int .i64 C, .int .i64 J]
    have hk3 := hk.alloc (.cells #[.int .i64 m, .int .i64 B, .int .i64 C, .int .i64 J] 23)
    have h13 := h1.alloc (.cells #[.int .i64 m, .int .i64 B, .int .i64 C, .int .i64 J] 23)
    have h23 := h2.alloc (.cells #[.int .i64 m, .int .i64 B, .int .i64 C, .int .i64 J] 23)
    have gW3 := gW.alloc (.cells #[.int .i64 m, .int .i64 B, .int .i64 C, .int .i64 J] 23)
    have hbl := Blk.lt bR
    have r1 : w1.heap.size ≠ k1 := by have := Blk.lt h1; omega
    have r2 : w1.heap.size ≠ k2 := by have := Blk.lt h2; omega
    clear hk h1 h2 gW
    generalize w1.alloc (.cells #[.int .i64 m, .int .i64 B, .int .i64 C, .int .i64 J] 23) = w3 at *
    generalize w1.heap.size = kR at *
    refine wpIn_rangeFunc_ownF rfl (by omega) (gf := 30) (lb := #[.pointer (some ⟨kR, 0, none⟩)]) rfl trivial (enters_of Try.func30 (by kernel_rfl) rfl)
      (waits_stops 8 (by omega) m B C J hok kR w3 bR) keepR_t (keepR_b hbl) (Below.refl _ _) (fun _ => rfl)
      (fun pre W => (∀ y ∈ pre, (y : Int) + 1 ≠ k) ∧ Blk W kk 3 #[.int .i64 k] ∧ Blk W k1 2 #[.int .i64 0] ∧ Blk W k2 24 #[.int .i64 0] ∧ G w W)
      (fun c pre W => c = .ret ∧ ∃ x ∈ pre, ((x : Int) + 1 = k) ∧ Blk W k1 2 #[.int .i64 (wAt B C x)] ∧ Blk W k2 24 #[.int .i64 0] ∧ G w W)
      (OwnFrom.and (ownFrom_pure _ _) (OwnFrom.and (ownFrom_blk _ kk 3 (fun _ => #[.int .i64 k])) (OwnFrom.and (ownFrom_blk _ k1 2 (fun _ => #[.int .i64 0])) (OwnFrom.and (ownFrom_blk _ k2 24 (fun _ => #[.int .i64 0])) (ownFrom_g gW3.size)))))
      (fun c s A D row hs hg hr => by
        obtain ⟨hc, x, hx, hxk, hb1, hb2, hgg⟩ := hs
        exact ⟨hc, x, hx, hxk, ownFrom_blk _ k1 2 (fun _ : List Nat => #[.int .i64 (wAt B C x)]) s A D row hb1 hg hr, ownFrom_blk _ k2 24 (fun _ : List Nat => #[.int .i64 0]) s A D row hb2 hg hr, ownFrom_g (β := List Nat) gW3.size s A D row hgg hg hr⟩)
      ⟨by simp, hk3, h13, h23, gW3⟩ ?a1 ?assign ?body ?done ?stop
    case assign =>
      intro l x W K hK
      dsimp only [encW]
      gi_wp2
      exact hK
    case body =>
      rintro l pre x W ⟨hp, hb, hb1, hb2, hg⟩ hlt2
      have c0 : W.cell? ⟨kk, 0, none⟩ = some (.int .i64 k) := hb.cell 0
      have c1 : W.cell? ⟨k1, 0, none⟩ = some (.int .i64 0) := hb1.cell 0
      have c2 : W.cell? ⟨k2, 0, none⟩ = some (.int .i64 0) := hb2.cell 0
      have f1 := hb1.frozen 0
      have f2 := hb2.frozen 0
      by_cases hx : (x : Int) + 1 = k
      · have hx' : ((x : Int) + 1 == k) = true := by simpa using hx
        gi_wp2
        exact ⟨(KeepsOthers.setCell _ _ _).trans (KeepsOthers.setCell _ _ _), rfl, x, by simp, hx, (hb1.set_ 0 _).far n12 _, (hb2.far (Ne.symm n12) _).set_ 0 _, (hg.setCell (p := ⟨k1, 0, none⟩) e1 _).setCell (p := ⟨k2, 0, none⟩) e2 _⟩
      · have hx' : ((x : Int) + 1 == k) = false := by simpa using hx
        gi_wp2
        exact ⟨KeepsOthers.refl _, keepR_refl, fun y hy => (List.mem_append.1 hy).elim (hp y) (fun h => by simp at h; subst h; exact hx), hb, hb1, hb2, hg⟩
    case done =>
      rintro D xs W hD rfl ⟨hp, hb, hb1, hb2, hg⟩ hK
      have c1 : W.cell? ⟨k1, 0, none⟩ = some (.int .i64 0) := hb1.cell 0
      have c2 : W.cell? ⟨k2, 0, none⟩ = some (.int .i64 0) := hb2.cell 0
      have f1 := hb1.frozen 0
      have f2 := hb2.frozen 0
      have hno : ¬ (1 ≤ k ∧ k ≤ m) := fun h => hp (k - 1).toNat (List.mem_range.2 (by omega)) (by omega)
      have hv1 : waitI m B C J k = 0 := if_neg (fun h => hno h.2)
      have hv2 : waitE m B C J k = 3 := by rw [HT.out, if_neg hno]
      go_wp2
      have hK' := ((KeepsOthers.setCell W ⟨k1, 0, none⟩ (.int .i64 0)).trans (KeepsOthers.setCell _ ⟨k2, 0, none⟩ (.int .i64 3))).same D _ hK rfl
      refine ⟨by simp, .inl ⟨_, _, rfl, run_takeDeferred hK', ?_⟩⟩
      have d1 := Blk.cell (Blk.put ((hb1.set_ 0 (.int .i64 0)).far n12 (.int .i64 3)) (.deferred none) hK' rfl) 0
      have d2 := Blk.cell (Blk.put ((hb2.far (p := ⟨k1, 0, none⟩) (Ne.symm n12) (.int .i64 0)).set_ 0 (.int .i64 3)) (.deferred none) hK' rfl) 0
      refine ⟨.tuple #[.int .i64 0, .int .i64 3], ?_, by rw [hv1, hv2], G.put ((hg.setCell (p := ⟨k1, 0, none⟩) e1 _).setCell (p := ⟨k2, 0, none⟩) e2 _) _ (Nat.le_trans gW3.size hD) hK'⟩
      simp [results, Try.f12, go_sem, d1, d2]
    case stop =>
      rintro D c pre W hD hpre ⟨rfl, x, hx, hxk, hb1, hb2, hg⟩ hK
      have c1 : W.cell? ⟨k1, 0, none⟩ = some (.int .i64 (wAt B C x)) := hb1.cell 0
      have c2 : W.cell? ⟨k2, 0, none⟩ = some (.int .i64 0) := hb2.cell 0
      have hxm : x < m := List.mem_range.1 (hpre.subset hx)
      have hv1 : waitI m B C J k = wAt B C x := by unfold waitI; rw [if_pos ⟨hok, by omega, by omega⟩, ← hxk]; congr 1; omega
      have hv2 : waitE m B C J k = 0 := by rw [HT.out, if_pos ⟨by omega, by omega⟩]
      gi_wp2
      refine ⟨by simp, .inl ⟨_, _, rfl, run_takeDeferred hK, ?_⟩⟩
      have d1 := Blk.cell (Blk.put hb1 (.deferred none) hK rfl) 0
      have d2 := Blk.cell (Blk.put hb2 (.deferred none) hK rfl) 0
      refine ⟨.tuple #[.int .i64 (wAt B C x), .int .i64 0], ?_, by rw [hv1, hv2], G.put hg _ (Nat.le_trans gW3.size hD) hK⟩
      simp [results, Try.f12, go_sem, d1, d2]
  · have HC : Hid (chkE M B C J = 16) := Lib.hid (if_neg hok)
    have HT : Hid (waitE M B C J k = 16) := Lib.hid (if_neg hok)
    have HI : Hid (waitI M B C J k = 0) := Lib.hid (if_neg (fun h => hok h.1))
    rw [HT.out, HI.out]
    clear hok
    go_enter Try.func12, Try.ntmps12
    go_wp2_with fail
    refine (check_any M B C J _).mono ?_
    rintro e w1 ⟨rfl, g1⟩
    rw [HC.out]
    have h1 : Blk w1 (w.heap.size + 1 + 1) 2 #[.int .i64 0] := Blk.g ((Blk.new2 w _ _ _ _).alloc _) g1
    have h2 : Blk w1 (w.heap.size + 1 + 1 + 1) 24 #[.int .i64 0] := Blk.g (Blk.new3 w _ _ _ _ _) g1
    have c1 : w1.cell? ⟨w.heap.size + 1 + 1, 0, none⟩ = some (.int .i64 0) := h1.cell 0
    have c2 : w1.cell? ⟨w.heap.size + 1 + 1 + 1, 0, none⟩ = some (.int .i64 0) := h2.cell 0
    have f1 := h1.frozen 0
    have f2 := h2.frozen 0
    have gW : G w w1 := (((((G.refl w).alloc _).alloc _).alloc _).alloc _).trans g1
    go_wp2_with fail
    have d1 := Blk.cell ((h1.set_ 0 (.int .i64 0)).far (p := ⟨w.heap.size + 1 + 1 + 1, 0, none⟩) (by simp) (.int .i64 16)) 0
    have d2 := Blk.cell ((h2.far (p := ⟨w.heap.size + 1 + 1, 0, none⟩) (by simp) (.int .i64 0)).set_ 0 (.int .i64 16)) 0
    refine bodyPost_ret (v := .tuple #[.int .i64 0, .int .i64 16]) (by simp [results, Try.results12, go_sem, d1, d2]) rfl ⟨rfl, (gW.setCell (p := ⟨_, 0, none⟩) (by simp; omega) _).setCell (p := ⟨_, 0, none⟩) (by simp; omega) _⟩

/-- the index of the first wait that is Cap -/
def reachO (M B C J : Int) : Option Nat := if okR M B C J then (List.range M.toNat).find? (fun k => wAt B C k == C) else none
def reachI (M B C J : Int) : Int := match reachO M B C J with | some k => (k : Int) + 1 | none => 0
def reachB (M B C J : Int) : Bool := match reachO M B C J with | some _ => true | none => false
theorem find_first {f : Nat → Bool} {m x : Nat} {p t : List Nat} (ht : p ++ [x] ++ t = List.range m) (hp : ∀ y ∈ p, f y = false) (hx : f x = true) : (List.range m).find? f = some x := by
  rw [← ht, List.append_assoc, List.find?_append]
  have : p.find? f = none := by rw [List.find?_eq_none]; intro y hy; simp [hp y hy]
  rw [this]
  simp [hx]
set_option maxRecDepth 100000 in
set_option maxHeartbeats 2000000 in
theorem reaches_any (M B C J : Int) (w : World) :
    Calls Try.prog 22 #[.agg #[.int .i64 M, .int .i64 B, .int .i64 C, .int .i64 J]] w fun e w' => e = .returned (.tuple #[.int .i64 (reachI M B C J), .bool (reachB M B C J), .int .i64 (chkE M B C J)]) ∧ G w w' := by
  by_cases hok : okR M B C J
  · have HC : Hid (chkE M B C J = 0) := Lib.hid (if_pos hok)
    have HT : Hid (reachO M B C J = (List.range M.toNat).find? (fun k => wAt B C k == C)) := Lib.hid (if_pos hok)
    rw [HC.out]
    obtain ⟨m, rfl⟩ : ∃ m : Nat, M = m := ⟨M.toNat, by unfold okR at hok; omega⟩
    have hm : m ≤ 20 := by unfold okR at hok; omega
    refine (callsIn_wide (n := 9)).1 (callsIn_of_wp_marks Try.func22 rfl trivial ?_ rfl)
    simp only [Try.ntmps22, List.size_toArray, List.length_cons, List.length_nil, Nat.reduceAdd, Nat.reduceSub, Array.replicate_succ, Array.replicate_zero, List.push_toArray, List.append_toArray, List.nil_append, List.cons_append]
    refine wpIn_wide.2 ?_
    go_wp2_with fail
    refine (check_any m B C J _).mono ?_
    rintro e w1 ⟨rfl, g1⟩
    rw [HC.out]
    have hr : Blk w1 w.heap.size 23 #[.int .i64 m, .int .i64 B, .int .i64 C, .int .i64 J] := Blk.g ((((Blk.new w _ _).alloc _).alloc _).alloc _) g1
    have h1 : Blk w1 (w.heap.size + 1) 3 #[.int .i64 0] := Blk.g (((Blk.new1 w _ _ _).alloc _).alloc _) g1
    have h2 : Blk w1 (w.heap.size + 1 + 1) 4 #[.bool false] := Blk.g ((Blk.new2 w _ _ _ _).alloc _) g1
    have h3 : Blk w1 (w.heap.size + 1 + 1 + 1) 24 #[.int .i64 0] := Blk.g (Blk.new3 w _ _ _ _ _) g1
    have gW : G w w1 := (((((G.refl w).alloc _).alloc _).alloc _).alloc _).trans g1
    have e1 : w.heap.size ≤ w.heap.size + 1 := by omega
    have e2 : w.heap.size ≤ w.heap.size + 1 + 1 := by omega
    have e3 : w.heap.size ≤ w.heap.size + 1 + 1 + 1 := by omega
    have n12 : w.heap.size + 1 ≠ w.heap.size + 1 + 1 := by omega
    have n13 : w.heap.size + 1 ≠ w.heap.size + 1 + 1 + 1 := by omega
    have n23 : w.heap.size + 1 + 1 ≠ w.heap.size + 1 + 1 + 1 := by omega
    clear g1
    generalize w.heap.size + 1 + 1 + 1 = k3 at *
    generalize w.heap.size + 1 + 1 = k2 at *
    generalize w.heap.size + 1 = k1 at *
    have x0 : w1.cell? ⟨w.heap.size, 0, none⟩ = some (.int .i64 m) := Blk.cell hr 0
    have x1 : w1.cell? ⟨w.heap.size, 1, none⟩ = some (.int .i64 B) := Blk.cell hr 1
    have x2 : w1.cell? ⟨w.heap.size, 2, none⟩ = some (.int .i64 C) := Blk.cell hr 2
    have x3 : w1.cell? ⟨w.heap.size, 3, none⟩ = some (.int .i64 J) := Blk.cell hr 3
    go_wp2_with fail
    refine (waits_any m B C J _).mono ?_
    rintro e w2 ⟨rfl, rfl⟩
    go_wp2_with fail
    refine (wpIn_wide (n := 9)).1 ?_
    clear x0 x1 x2 x3
    have bR := Blk.new w1 23 #[.int .i64 m, .int .i64 B, .int .i64 C, .int .i64 J]
    have hr3 := hr.alloc (.cells #[.int .i64 m, .int .i64 B, .int .i64 C, .int .i64 J] 23)
    have h13 := h1.alloc (.cells #[.int .i64 m, .int .i64 B, .int .i64 C, .int .i64 J] 23)
    have h23 := h2.alloc (.cells #[.int .i64 m, .int .i64 B, .int .i64 C, .int .i64 J] 23)
    have h33 := h3.alloc (.cells #[.int .i64 m, .int .i64 B, .int .i64 C, .int .i64 J] 23)
    have gW3 := gW.alloc (.cells #[.int .i64 m, .int .i64 B, .int .i64 C, .int .i64 J] 23)
    have hbl := Blk.lt bR
    clear hr h1 h2 h3 gW
    generalize w1.alloc (.cells #[.int .i64 m, .int .i64 B, .int .i64 C, .int .i64 J] 23) = w3 at *
    generalize w1.heap.size = kR at *
    obtain ⟨kP, hkP⟩ : ∃ kP, w.heap.size = kP := ⟨_, rfl⟩
    rw [hkP] at hr3
    refine wpIn_rangeFunc_ownF rfl (by omega) (gf := 30) (lb := #[.pointer (some ⟨kR, 0, none⟩)]) rfl trivial (enters_of Try.func30 (by kernel_rfl) rfl)
      (waits_stops 8 (by omega) m B C J hok kR w3 bR) keepR_t (keepR_b hbl) (Below.refl _ _) (fun _ => rfl)
      (fun pre W => (∀ y ∈ pre, wAt B C y ≠ C) ∧ Blk W kP 23 #[.int .i64 m, .int .i64 B, .int .i64 C, .int .i64 J] ∧ Blk W k1 3 #[.int .i64 0] ∧ Blk W k2 4 #[.bool false] ∧ Blk W k3 24 #[.int .i64 0] ∧ G w W)
      (fun c pre W => c = .ret ∧ ∃ p x, pre = p ++ [x] ∧ (∀ y ∈ p, wAt B C y ≠ C) ∧ wAt B C x = C ∧ Blk W k1 3 #[.int .i64 ((x : Int) + 1)] ∧ Blk W k2 4 #[.bool true] ∧ Blk W k3 24 #[.int .i64 0] ∧ G w W)
      (OwnFrom.and (ownFrom_pure _ _) (OwnFrom.and (ownFrom_blk _ kP 23 (fun _ => #[.int .i64 m, .int .i64 B, .int .i64 C, .int .i64 J])) (OwnFrom.and (ownFrom_blk _ k1 3 (fun _ => #[.int .i64 0])) (OwnFrom.and (ownFrom_blk _ k2 4 (fun _ => #[.bool false])) (OwnFrom.and (ownFrom_blk _ k3 24 (fun _ => #[.int .i64 0])) (ownFrom_g gW3.size))))))
      (fun c s A D row hs hg hr => by
        obtain ⟨hc, p, x, hx, hy, hxk, hb1, hb2, hb3, hgg⟩ := hs
        exact ⟨hc, p, x, hx, hy, hxk, ownFrom_blk _ k1 3 (fun _ : List Nat => #[.int .i64 ((x : Int) + 1)]) s A D row hb1 hg hr, ownFrom_blk _ k2 4 (fun _ : List Nat => #[.bool true]) s A D row hb2 hg hr, ownFrom_blk _ k3 24 (fun _ : List Nat => #[.int .i64 0]) s A D row hb3 hg hr, ownFrom_g (β := List Nat) gW3.size s A D row hgg hg hr⟩)
      ⟨by simp, hr3, h13, h23, h33, gW3⟩ ?a1 ?assign ?body ?done ?stop
    case assign =>
      intro l x W K hK
      dsimp only [encW]
      gi_wp2
      exact hK
    case body =>
      rintro l pre x W ⟨hp, hb, hb1, hb2, hb3, hg⟩ hlt2
      have c0 : W.cell? ⟨kP, 2, none⟩ = some (.int .i64 C) := hb.cell 2
      have c1 : W.cell? ⟨k1, 0, none⟩ = some (.int .i64 0) := hb1.cell 0
      have c2 : W.cell? ⟨k2, 0, none⟩ = some (.bool false) := hb2.cell 0
      have c3 : W.cell? ⟨k3, 0, none⟩ = some (.int .i64 0) := hb3.cell 0
      have f1 := hb1.frozen 0
      have f2 := hb2.frozen 0
      have f3 := hb3.frozen 0
      by_cases hx : wAt B C x = C
      · have hx' : (wAt B C x == C) = true := by simpa using hx
        have HX := Lib.hid hx
        clear hx
        gi_wp2
        exact ⟨((KeepsOthers.setCell _ _ _).trans (KeepsOthers.setCell _ _ _)).trans (KeepsOthers.setCell _ _ _), rfl, pre, x, rfl, hp, HX.out, ((hb1.set_ 0 _).far n12 _).far n13 _, ((hb2.far (Ne.symm n12) _).set_ 0 _).far n23 _, ((hb3.far (Ne.symm n13) _).far (Ne.symm n23) _).set_ 0 _, ((hg.setCell (p := ⟨k1, 0, none⟩) e1 _).setCell (p := ⟨k2, 0, none⟩) e2 _).setCell (p := ⟨k3, 0, none⟩) e3 _⟩
      · have hx' : (wAt B C x == C) = false := by simpa using hx
        gi_wp2
        exact ⟨KeepsOthers.refl _, keepR_refl, fun y hy => (List.mem_append.1 hy).elim (hp y) (fun h => by simp at h; subst h; exact hx), hb, hb1, hb2, hb3, hg⟩
    case done =>
      rintro D xs W hD rfl ⟨hp, hb, hb1, hb2, hb3, hg⟩ hK
      have c1 : W.cell? ⟨k1, 0, none⟩ = some (.int .i64 0) := hb1.cell 0
      have c2 : W.cell? ⟨k2, 0, none⟩ = some (.bool false) := hb2.cell 0
      have c3 : W.cell? ⟨k3, 0, none⟩ = some (.int .i64 0) := hb3.cell 0
      have f1 := hb1.frozen 0
      have f2 := hb2.frozen 0
      have f3 := hb3.frozen 0
      have hO : reachO m B C J = none := by
        rw [HT.out, Int.toNat_natCast, List.find?_eq_none]
        intro y hy
        simpa using hp y hy
      have hv1 : reachI m B C J = 0 := by unfold reachI; rw [hO]
      have hv2 : reachB m B C J = false := by unfold reachB; rw [hO]
      go_wp2
      have hK' := (((KeepsOthers.setCell W ⟨k1, 0, none⟩ (.int .i64 0)).trans (KeepsOthers.setCell _ ⟨k2, 0, none⟩ (.bool false))).trans (KeepsOthers.setCell _ ⟨k3, 0, none⟩ (.int .i64 0))).same D _ hK rfl
      refine ⟨by simp, .inl ⟨_, _, rfl, run_takeDeferred hK', ?_⟩⟩
      have d1 := Blk.cell (Blk.put (((hb1.set_ 0 (.int .i64 0)).far n12 (.bool false)).far n13 (.int .i64 0)) (.deferred none) hK' rfl) 0
      have d2 := Blk.cell (Blk.put (((hb2.far (p := ⟨k1, 0, none⟩) (Ne.symm n12) (.int .i64 0)).set_ 0 (.bool false)).far n23 (.int .i64 0)) (.deferred none) hK' rfl) 0
      have d3 := Blk.cell (Blk.put (((hb3.far (p := ⟨k1, 0, none⟩) (Ne.symm n13) (.int .i64 0)).far (p := ⟨k2, 0, none⟩) (Ne.symm n23) (.bool false)).set_ 0 (.int .i64 0)) (.deferred none) hK' rfl) 0
      refine ⟨.tuple #[.int .i64 0, .bool false, .int .i64 0], ?_, by rw [hv1, hv2], G.put (((hg.setCell (p := ⟨k1, 0, none⟩) e1 _).setCell (p := ⟨k2, 0, none⟩) e2 _).setCell (p := ⟨k3, 0, none⟩) e3 _) _ (Nat.le_trans gW3.size hD) hK'⟩
      simp [results, Try.f22, go_sem, d1, d2, d3]
    case stop =>
      rintro D c pre W hD ⟨t, ht⟩ ⟨rfl, p, x, rfl, hy, hxk, hb1, hb2, hb3, hg⟩ hK
      have c1 : W.cell? ⟨k1, 0, none⟩ = some (.int .i64 ((x : Int) + 1)) := hb1.cell 0
      have c2 : W.cell? ⟨k2, 0, none⟩ = some (.bool true) := hb2.cell 0
      have c3 : W.cell? ⟨k3, 0, none⟩ = some (.int .i64 0) := hb3.cell 0
      have hO : reachO m B C J = some x := by
        rw [HT.out, Int.toNat_natCast]
        exact find_first ht (fun y h => by simpa using hy y h) (by simpa using hxk)
      have hv1 : reachI m B C J = (x : Int) + 1 := by unfold reachI; rw [hO]
      have hv2 : reachB m B C J = true := by unfold reachB; rw [hO]
      clear hxk
      gi_wp2
      refine ⟨by simp, .inl ⟨_, _, rfl, run_takeDeferred hK, ?_⟩⟩
      have d1 := Blk.cell (Blk.put hb1 (.deferred none) hK rfl) 0
      have d2 := Blk.cell (Blk.put hb2 (.deferred none) hK rfl) 0
      have d3 := Blk.cell (Blk.put hb3 (.deferred none) hK rfl) 0
      refine ⟨.tuple #[.int .i64 ((x : Int) + 1), .bool true, .int .i64 0], ?_, by rw [hv1, hv2], G.put hg _ (Nat.le_trans gW3.size hD) hK⟩
      simp [results, Try.f22, go_sem, d1, d2, d3]
  · have HC : Hid (chkE M B C J = 16) := Lib.hid (if_neg hok)
    have HT : reachO M B C J = none := if_neg hok
    have HI : Hid (reachI M B C J = 0) := Lib.hid (by unfold reachI; rw [HT])
    have HB : Hid (reachB M B C J = false) := Lib.hid (by unfold reachB; rw [HT])
    rw [HB.out, HI.out, HC.out]
    clear hok HT
    go_enter Try.func22, Try.ntmps22
    go_wp2_with fail
    refine (check_any M B C J _).mono ?_
    rintro e w1 ⟨rfl, g1⟩
    rw [HC.out]
    have h1 : Blk w1 (w.heap.size + 1) 3 #[.int .i64 0] := Blk.g (((Blk.new1 w _ _ _).alloc _).alloc _) g1
    have h2 : Blk w1 (w.heap.size + 1 + 1) 4 #[.bool false] := Blk.g ((Blk.new2 w _ _ _ _).alloc _) g1
    have h3 : Blk w1 (w.heap.size + 1 + 1 + 1) 24 #[.int .i64 0] := Blk.g (Blk.new3 w _ _ _ _ _) g1
    have c1 : w1.cell? ⟨w.heap.size + 1, 0, none⟩ = some (.int .i64 0) := h1.cell 0
    have c2 : w1.cell? ⟨w.heap.size + 1 + 1, 0, none⟩ = some (.bool false) := h2.cell 0
    have c3 : w1.cell? ⟨w.heap.size + 1 + 1 + 1, 0, none⟩ = some (.int .i64 0) := h3.cell 0
    have f1 := h1.frozen 0
    have f2 := h2.frozen 0
    have f3 := h3.frozen 0
    have gW : G w w1 := (((((G.refl w).alloc _).alloc _).alloc _).alloc _).trans g1
    go_wp2_with fail
    have d1 := Blk.cell (((h1.set_ 0 (.int .i64 0)).far (p := ⟨w.heap.size + 1 + 1, 0, none⟩) (by simp <;> omega) (.bool false)).far (p := ⟨w.heap.size + 1 + 1 + 1, 0, none⟩) (by simp <;> omega) (.int .i64 16)) 0
    have d2 := Blk.cell (((h2.far (p := ⟨w.heap.size + 1, 0, none⟩) (by simp <;> omega) (.int .i64 0)).set_ 0 (.bool false)).far (p := ⟨w.heap.size + 1 + 1 + 1, 0, none⟩) (by simp <;> omega) (.int .i64 16)) 0
    have d3 := Blk.cell (((h3.far (p := ⟨w.heap.size + 1, 0, none⟩) (by simp <;> omega) (.int .i64 0)).far (p := ⟨w.heap.size + 1 + 1, 0, none⟩) (by simp <;> omega) (.bool false)).set_ 0 (.int .i64 16)) 0
    refine bodyPost_ret (v := .tuple #[.int .i64 0, .bool false, .int .i64 16]) (by simp [results, Try.results22, go_sem, d1, d2, d3]) rfl ⟨rfl, ((gW.setCell (p := ⟨_, 0, none⟩) (by simp <;> omega) _).setCell (p := ⟨_, 0, none⟩) (by simp <;> omega) _).setCell (p := ⟨_, 0, none⟩) (by simp <;> omega) _⟩
end Go.Proofs.Ytabgddiecddbhaa
