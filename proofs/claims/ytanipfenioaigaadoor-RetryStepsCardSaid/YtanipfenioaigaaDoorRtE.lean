/-
  Package retry: slices.AppendSeq, slices.Collect over an iterator that writes its box; slices.ContainsFunc, slices.Clone.
-/
import Derived.Test.YtanipfenioaigaaDoorRtC
set_option linter.unusedVariables false
set_option linter.unusedSimpArgs false
namespace Go.Proofs.YtanipfenioaigaaDoor
open Go.RowKit Go.Shelf
attribute [local go_sem] Oper.semAt_some

def lstT (f : Nat → Int) (pre : List Nat) : List Value := pre.map (fun k => .int .i64 (f k))
theorem lstT_snoc (f : Nat → Int) (pre : List Nat) (x : Nat) : lstT f (pre ++ [x]) = lstT f pre ++ [.int .i64 (f x)] := by simp [lstT]
theorem lstT_eq (f : Nat → Int) (m : Nat) : lstT f (List.range m) = vI .i64 ((List.range m).map f) := by simp [lstT, vI]
theorem info_i64r : (Tryd.prog.info? 2).map (fun i => (i.zero, i.size, i.bytes)) = some (some (.int .i64 0), 1, 8) := by kernel_rfl
theorem boxed_far {n k : Nat} {t : TypeId} {v : Value} {W : World} (h : Boxed W k t v) {p : Addr} (hp : k ≠ p.block) (u : Value) : Boxed (W.setCell p u) k t v := Blk.far h hp u
theorem row_far {W : World} {base : Nat} {e : TypeId} {size : Nat} {v : Value} {n : Nat} {xs : List Value} (h : W.ownsRow base e size v n xs) {p : Addr} (hp : p.block < base) (u : Value) : (W.setCell p u).ownsRow base e size v n xs := by
  obtain ⟨hl, hv⟩ := h
  refine ⟨hl, ?_⟩
  rcases hv with hv | ⟨r, cap, cur, hv, hb, hg, hr⟩
  · exact .inl hv
  · exact .inr ⟨r, cap, cur, hv, hb, (Below.heap_setCell W p u r (by omega)).trans hg, hr⟩
theorem ownFrom_gr {β : Type} {w : World} {k n : Nat} (hn : w.heap.size ≤ n) : OwnFrom n (fun (_ : β) W => w.grownBy W (some k)) := fun s A B row hs hg hr => by
  refine ⟨hg.os.trans hs.os, hg.tape.trans hs.tape, hg.output.trans hs.output, Nat.le_trans hs.size hg.size, fun i hi hne => ?_⟩
  refine (hg.block i (Nat.lt_of_lt_of_le hi hs.size) (fun e => ?_)).trans (hs.block i hi hne)
  obtain ⟨hb, _⟩ := hr i e.symm
  omega
theorem gr_row {w W W' : World} {k : Nat} {row : Option Nat} (h : w.grownBy W (some k)) (g : W.grownBy W' row) (hr : ∀ r, row = some r → w.heap.size ≤ r) : w.grownBy W' (some k) :=
  ⟨g.os.trans h.os, g.tape.trans h.tape, g.output.trans h.output, Nat.le_trans h.size g.size, fun i hi hne => (g.block i (Nat.lt_of_lt_of_le hi h.size) (fun e => by have := hr i e.symm; omega)).trans (h.block i hi hne)⟩
theorem gr_put {w W : World} {k : Nat} (h : w.grownBy W (some k)) {D : Nat} (o' : Obj) (hD : w.heap.size ≤ D) : w.grownBy (W.putObj D o') (some k) :=
  gr_row h (grownBy_putObj' W D o') (fun r e => by cases e; exact hD)
theorem gr_below {w W W' : World} {k : Nat} (h : w.grownBy W (some k)) (b : Below w.heap.size W W') : w.grownBy W' (some k) :=
  ⟨b.os.trans h.os, b.tape.trans h.tape, b.output.trans h.output, Nat.le_trans h.size b.size, fun i hi hne => (b.block i hi).trans (h.block i hi hne)⟩
set_option maxRecDepth 100000 in
set_option maxHeartbeats 4000000 in
theorem appendSeq_any (f : Nat → Int) (gf : Nat) (lb : Array Value) (kF m N : Nat) (w : World) (hkF : kF < w.heap.size) (hN : N ≤ 31) (eg : ∀ args w, (callFunc gf args).run Tryd.prog w = .ok (.enter gf args) w)
    (hseq : SeqW Fence.wide 8 Tryd.prog gf lb (encT f) kF (KeepN w.heap.size) (fun xs => xs = List.range m) N w) :
    Calls Tryd.prog 50 #[.slice none 0 0, .func (.func gf) #[] lb] w fun e w' => ∃ v, e = .returned v ∧ w'.ownsRow w.heap.size 2 1 v m (vI .i64 ((List.range m).map f)) ∧ w.grownBy w' (some kF) := by
  obtain ⟨i0, hi, hz0, hz1, hz2⟩ := info_parts info_i64r
  refine (callsIn_wide (n := 9)).1 (callsIn_of_wp_marks Tryd.func50 rfl trivial ?_ rfl)
  simp only [Tryd.ntmps50, List.size_toArray, List.length_cons, List.length_nil, Nat.reduceAdd, Nat.reduceSub, Array.replicate_succ, Array.replicate_zero, List.push_toArray, List.append_toArray, List.nil_append, List.cons_append]
  refine wpIn_wide.2 ?_
  go_wp2_with fail
  refine (wpIn_wide (n := 9)).1 ?_
  have hS : Boxed (w.alloc (.cells #[.slice none 0 0] 27)) w.heap.size 27 (.slice none 0 0) := Boxed.new w 27 (.slice none 0 0)
  have gW : G w (w.alloc (.cells #[.slice none 0 0] 27)) := (G.refl w).alloc _
  have gR : w.grownBy (w.alloc (.cells #[.slice none 0 0] 27)) (some kF) := grown_of_G gW _
  have hsz : (w.alloc (.cells #[.slice none 0 0] 27)).heap.size = w.heap.size + 1 := by simp
  have hseq3 : SeqW Fence.wide 8 Tryd.prog gf lb (encT f) kF (KeepN w.heap.size) (fun xs => xs = List.range m) N (w.alloc (.cells #[.slice none 0 0] 27)) := fun W h => hseq W (gW.trans h)
  generalize w.alloc (.cells #[.slice none 0 0] 27) = w3 at *
  clear gW hseq
  obtain ⟨n, hn⟩ : ∃ n, w.heap.size = n := ⟨_, rfl⟩
  rw [hn] at hS hsz hkF hseq3 ⊢
  refine wpIn_rangeFunc_wr (F := Fence.wide) (n := 9) rfl (by omega) (gf := gf) (lb := lb) (kF := kF) rfl trivial eg hseq3 (by omega) KeepN.trans (fun W l o o' hl _ _ _ => KeepN.put W l o' (by omega)) (fun _ => rfl)
    (fun pre W => (∃ v, Boxed W n 27 v ∧ W.ownsRow n 2 1 v pre.length (lstT f pre) ∧ True) ∧ w.grownBy W (some kF))
    (OwnFrom.and (Own.from (holdsRow_own n n 27 2 1 (fun pre => pre.length) (fun pre => lstT f pre) (fun _ _ => True)) _) (ownFrom_gr (by omega)))
    (fun s W u hs => by
      obtain ⟨⟨v, hv, hr, -⟩, hg⟩ := hs
      exact ⟨⟨v, boxed_far (n := n) hv (by show n ≠ kF; omega) u, row_far hr (by show kF < n; omega) u, trivial⟩, grown_setCell hg 0 u⟩)
    ⟨⟨_, hS, World.ownsRow_nil _ _ _ _, trivial⟩, gR⟩ ?a1 ?assign ?body ?done
  case assign =>
    intro l x W K hK
    dsimp only [encT]
    gi_wp2
    exact hK
  case body =>
    rintro l pre x W ⟨⟨v, hv, hrow, -⟩, hg⟩ hlt2
    have hc := hv.cell
    have HS := Lib.hid (lstT_snoc f pre x)
    have hpl : pre.length ≤ 30 := by omega
    have hgs : n ≤ W.heap.size := by have := hg.size; omega
    gi_wp2_with (gi_at_builtin; refine wpListIn_append_own _ rfl _ _ 27 rfl n 2 i0 (.int .i64 0) 1 8 Tryd.underlying27 hi hz0 hz1 hz2 rfl (by decide) _ _ _ rfl (hrow.alloc _) ⟨W.heap.size, 0, none⟩ 1 1 [.int .i64 (f x)] rfl rfl (cell_one_new _ _ _) (by simp [Value.oneCell']) (by simp [maxLen]; omega) (by omega) (by simp; omega) ?_; intro v' w1 hown' hgrow _; obtain ⟨g', cap', rfl⟩ := ownsRow_succ hown'; obtain ⟨hv1, hv2, hr2, hk2, hb2⟩ := hv.appended (by decide) hrow hgs (Nat.le_refl _) hown' hgrow; have hc1 := hv1.cell; have hf1 := hv1.frozen)
    exact ⟨hk2.from _, ⟨hb2.size, fun k hk => hb2.block k hk⟩, ⟨_, hv2, by rw [HS.out, List.length_append]; exact hr2, trivial⟩, gr_below hg (by rw [hn]; exact hb2)⟩
  case done =>
    rintro D xs W hD rfl ⟨⟨v, hv, hrow, -⟩, hg⟩ hK
    have c0 := hv.cell
    go_wp2
    refine ⟨by simp, .inl ⟨_, _, rfl, run_takeDeferred hK, ?_⟩⟩
    exact ⟨_, results_tmp rfl _ _ _, v, rfl, by have := ownsRow_putObj hrow (.deferred none) hK rfl; rw [List.length_range] at this; rw [← lstT_eq, hn]; exact this, gr_put hg _ (by omega)⟩
set_option maxHeartbeats 1000000 in
theorem collect_any (f : Nat → Int) (gf : Nat) (lb : Array Value) (kF m N : Nat) (w : World) (hkF : kF < w.heap.size) (hN : N ≤ 31) (eg : ∀ args w, (callFunc gf args).run Tryd.prog w = .ok (.enter gf args) w)
    (hseq : SeqW Fence.wide 8 Tryd.prog gf lb (encT f) kF (KeepN w.heap.size) (fun xs => xs = List.range m) N w) :
    Calls Tryd.prog 35 #[.func (.func gf) #[] lb] w fun e w' => ∃ v, e = .returned v ∧ w'.ownsRow w.heap.size 2 1 v m (vI .i64 ((List.range m).map f)) ∧ w.grownBy w' (some kF) := by
  have H := Lib.hid (appendSeq_any f gf lb kF m N w hkF hN eg hseq)
  clear hseq eg
  go_enter Tryd.func35, Tryd.ntmps35
  go_wp2_with fail
  go_at_call 50
  refine H.out.mono ?_
  rintro e w1 ⟨v, rfl, hrow, hg⟩
  go_wp2_with fail
  go_ret
  exact ⟨v, rfl, hrow, hg⟩
/-- the test that a run fails -/
theorem lit_yes (x : Int) (b : Bool) (h : decide (spB x) = b) (w : World) :
    Calls Tryd.prog 33 #[.int .i64 x] w fun e w' => e = .returned (.bool !b) ∧ w = w' := by
  have H := Lib.hid h
  clear h
  cases b
  all_goals (
    go_enter Tryd.func33, Tryd.ntmps33
    go_wp2_with fail
    go_at_call 34
    refine (isspan_b x _ H.out _).mono ?_
    rintro e w1 ⟨rfl, rfl⟩
    go_wp2_with fail
    go_ret
    exact ⟨rfl, rfl⟩)
set_option maxHeartbeats 1000000 in
theorem indexFunc_any (l : List Int) (v : Value) (w : World) (hR : Rd w v (vI .i64 l)) :
    Calls Tryd.prog 49 #[v, .func (.func 33) #[] #[]] w fun e w' => ∃ i : Int, e = .returned (.int .i64 i) ∧ (-1 ≤ i ∧ i ≤ 9223372036854775807) ∧ (i < 0 ↔ ∀ x ∈ l, spB x) ∧ G w w' := by
  obtain ⟨A1, d1, rfl, hd1, hm1, h1⟩ := hR
  rw [vI_len] at *
  have hn : l.length ≤ 9223372036854775807 := by omega
  go_enter Tryd.func49, Tryd.ntmps49
  go_wp2
  go_loopw [5, 8] (fun _ i wr => ∃ k : Nat, k ≤ l.length ∧ i = .int .i64 k ∧ Hid (∀ j, j < k → spB (l[j]?.getD 0)) ∧ G w wr) (fun _ i _ => l.length - (intOf i).toNat)
  case atStart => exact ⟨0, Nat.zero_le _, rfl, Lib.hid (fun j hj => absurd hj (Nat.not_lt_zero _)), G.refl _⟩
  case round =>
    obtain ⟨k, hk, rfl, HA, hg⟩ := hrel
    by_cases hlt : k < l.length
    · obtain ⟨b1, o1, rfl, c1⟩ := h1 (by omega)
      have e1 := c1 k _ (vI_get hlt)
      have f1 := hg.cell (World.block_lt_of_cell? w _ e1) e1
      clear c1 e1 h1
      have hki : (k : Int) < l.length := by omega
      obtain ⟨x, hx⟩ : ∃ x, l[k]?.getD 0 = x := ⟨_, rfl⟩
      have HX := Lib.hid hx
      rw [hx] at f1
      clear hx
      by_cases hs : spB x
      · have HS := Lib.hid (decide_eq_true hs)
        have HB : Hid (∀ j, j < k + 1 → spB (l[j]?.getD 0)) := Lib.hid (fun j hj => by
          by_cases e : j = k
          · subst e; rw [HX.out]; exact hs
          · exact HA.out j (by omega))
        clear hs
        go_wp2_with fail
        go_at_call 33
        refine (lit_yes x true HS.out _).mono ?_
        rintro e w1 ⟨rfl, rfl⟩
        go_wp2_with fail
        go_roundw
        case rel => exact ⟨k + 1, by omega, by go_num, HB, hg⟩
        case measure => simp [intOf]; omega
      · have HS := Lib.hid (decide_eq_false hs)
        have HN : Hid (¬ ∀ x ∈ l, spB x) := Lib.hid (fun h => hs (by
          rw [← HX.out, List.getElem?_eq_getElem hlt]
          exact h _ (List.getElem_mem hlt)))
        clear hs
        go_wp2_with fail
        go_at_call 33
        refine (lit_yes x false HS.out _).mono ?_
        rintro e w1 ⟨rfl, rfl⟩
        go_wp2_with fail
        go_ret
        exact ⟨k, rfl, by omega, ⟨fun h => by omega, fun h => absurd h HN.out⟩, hg⟩
    · obtain rfl : k = l.length := by omega
      go_wp2_with fail
      go_ret
      refine ⟨-1, rfl, by omega, ⟨fun _ x hx => ?_, fun _ => by omega⟩, hg⟩
      obtain ⟨j, hj, rfl⟩ := List.getElem_of_mem hx
      have := HA.out j hj
      rw [List.getElem?_eq_getElem hj] at this
      exact this
set_option maxHeartbeats 1000000 in
theorem containsFunc_any (l : List Int) (v : Value) (w : World) (hR : Rd w v (vI .i64 l)) :
    Calls Tryd.prog 32 #[v, .func (.func 33) #[] #[]] w fun e w' => e = .returned (.bool (decide ¬ ∀ x ∈ l, spB x)) ∧ G w w' := by
  have H := Lib.hid (indexFunc_any l v w hR)
  obtain ⟨b, hb⟩ : ∃ b, decide (¬ ∀ x ∈ l, spB x) = b := ⟨_, rfl⟩
  have HB := Lib.hid hb
  rw [hb]
  clear hR hb
  go_enter Tryd.func32, Tryd.ntmps32
  go_wp2_with fail
  go_at_call 49
  refine H.out.mono ?_
  rintro e w1 ⟨i, rfl, ⟨hi0, hi1⟩, hi, hg⟩
  have HI := Lib.hid hi
  clear hi
  have hE : b = decide (0 ≤ i) := by
    rw [← HB.out]
    by_cases h : i < 0
    · exact (decide_eq_false (p := ¬ ∀ x ∈ l, spB x) (fun hn => hn (HI.out.1 h))).trans (decide_eq_false (p := 0 ≤ i) (by omega)).symm
    · exact (decide_eq_true (p := ¬ ∀ x ∈ l, spB x) (fun hn => h (HI.out.2 hn))).trans (decide_eq_true (p := 0 ≤ i) (by omega)).symm
  go_wp2_with fail
  go_ret
  exact ⟨by rw [hE]; rfl, hg⟩
end Go.Proofs.YtanipfenioaigaaDoor
