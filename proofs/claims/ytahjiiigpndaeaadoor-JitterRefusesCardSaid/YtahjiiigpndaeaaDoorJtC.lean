/-
  Package jitter: List, Total, Least: the callers of the iterator.
-/
import Derived.Test.YtahjiiigpndaeaaDoorJtB
import Derived.Maps.AppendAt
set_option linter.unusedVariables false
set_option linter.unusedSimpArgs false
namespace Go.Proofs.YtahjiiigpndaeaaDoor
open Go.RowKit Go.Shelf
attribute [local go_sem] Oper.semAt_some

section
variable {kn ke ks km kd kL : Nat} {a : Int} {s : ByteArray} {d n L E : Int}
theorem ownFrom_jAt {β : Type} {w : World} (h : JAt w kn ke ks km kd kL a s d n L E) : OwnFrom w.heap.size (fun (_ : β) W => JAt W kn ke ks km kd kL a s d n L E) := by
  intro x W W' row hs hg hr
  refine hs.grown hg fun k e hk => ?_
  have h1 := (hr k e).1
  have h2 := h.lt hk
  omega
theorem keepJ_t {x y z : World} (h : KeepJ kn ke ks km kd kL a s d n L E x y) (k : KeepJ kn ke ks km kd kL a s d n L E y z) : KeepJ kn ke ks km kd kL a s d n L E x z := fun r => k (h r)
theorem keepJ_b {w : World} (hw : JAt w kn ke ks km kd kL a s d n L E) (W : World) (l : Nat) (o o' : Obj) (hl : w.heap.size ≤ l) (_ : W.heap[l]? = some o) (_ : o.isCells = false) (_ : o.isWalk = false) : KeepJ kn ke ks km kd kL a s d n L E W (W.putObj l o') := by
  intro r
  refine r.grown (grownBy_putObj' W l o') fun k e hk => ?_
  cases e
  have := hw.lt hk
  omega
theorem JAt.set_ {W : World} (h : JAt W kn ke ks km kd kL a s d n L E) {b : Nat} (hb : ¬ JAt.in_ kn ke ks km kd kL b) (i : Nat) (u : Value) : JAt (W.setCell ⟨b, i, none⟩ u) kn ke ks km kd kL a s d n L E :=
  h.grown (grown_setCell (grown_of_G (G.refl _) (some b)) i u) fun k e => by cases e; exact hb
end
/-- the first jitters -/
def jL (a : Int) (s : ByteArray) (d L : Int) (m : Nat) : List Int := (List.range m).map (fun (k : Nat) => jw a s d ((k : Int) + 1) L)
theorem jL_len (a : Int) (s : ByteArray) (d L : Int) (m : Nat) : (jL a s d L m).length = m := by simp [jL]
def lstJ (a : Int) (s : ByteArray) (d L : Int) (pre : List Nat) : List Value := pre.map (fun (k : Nat) => .int .i64 (jw a s d ((k : Int) + 1) L))
theorem lstJ_snoc (a : Int) (s : ByteArray) (d L : Int) (pre : List Nat) (x : Nat) : lstJ a s d L (pre ++ [x]) = lstJ a s d L pre ++ [.int .i64 (jw a s d ((x : Int) + 1) L)] := by simp [lstJ]
theorem lstJ_eq (a : Int) (s : ByteArray) (d L : Int) (m : Nat) : lstJ a s d L (List.range m) = vI .i64 (jL a s d L m) := by simp [lstJ, jL, vI]
theorem info_i64 : (Tryd.prog.info? 2).map (fun i => (i.zero, i.size, i.bytes)) = some (some (.int .i64 0), 1, 8) := by kernel_rfl
set_option maxRecDepth 100000 in
set_option maxHeartbeats 2000000 in
theorem jlist_any (a : Int) (s : ByteArray) (d n L : Int) (ha : u64 a) (n0 : -9223372036854775808 ≤ n) (n1 : n ≤ 9223372036854775807) (w : World) (ht : Tab w) :
    Calls Tryd.prog 15 #[.int .u64 a, .string s, .int .i64 d, .int .i64 n, .int .i64 L] w fun e w' => ∃ v, e = .returned (.tuple #[v, .int .i64 (jnE s d n L)]) ∧ Rd w' v (vI .i64 (jL a s d L (jnN s d n L))) ∧ G w w' := by
  have HT := Lib.hid ht
  have hm := jnN_bd s d n L
  obtain ⟨i0, hi, hz0, hz1, hz2⟩ := info_parts info_i64
  clear ht
  refine (callsIn_wide (n := 9)).1 (callsIn_of_wp_marks Tryd.func15 rfl trivial ?_ rfl)
  simp only [Tryd.ntmps15, List.size_toArray, List.length_cons, List.length_nil, Nat.reduceAdd, Nat.reduceSub, Array.replicate_succ, Array.replicate_zero, List.push_toArray, List.append_toArray, List.nil_append, List.cons_append]
  refine wpIn_wide.2 ?_
  go_wp2_with fail
  go_at_call 40
  refine (all_any a s d n L _ HT.out).mono ?_
  rintro e w1 ⟨kn, ke, ks, km, kd, kL, rfl, hJ, g1⟩
  go_wp2_with fail
  refine (wpIn_wide (n := 9)).1 ?_
  have hS : Boxed (w1.alloc (.cells #[.slice none 0 0] 27)) w1.heap.size 27 (.slice none 0 0) := Boxed.new w1 27 (.slice none 0 0)
  have gW : G w (w1.alloc (.cells #[.slice none 0 0] 27)) := g1.alloc _
  have hJ2 := hJ.g ((G.refl w1).alloc (.cells #[.slice none 0 0] 27))
  have hsz : w.heap.size ≤ w1.heap.size := g1.size
  have HK : Hid (∀ r, JAt.in_ kn ke ks km kd kL r → r < w1.heap.size) := Lib.hid (fun r h => hJ.lt h)
  clear hJ g1
  generalize (w1.alloc (.cells #[.slice none 0 0] 27)) = w2 at *
  generalize w1.heap.size = kS at *
  have hst := all_stops 8 (by omega) kn ke ks km kd kL a s d n L ha n0 n1 w2 hJ2
  refine wpIn_rangeFunc_ownG rfl (by omega) (gf := 53) (lb := #[.pointer (some ⟨kn, 0, none⟩), .pointer (some ⟨ke, 0, none⟩), .pointer (some ⟨ks, 0, none⟩), .pointer (some ⟨km, 0, none⟩), .pointer (some ⟨kd, 0, none⟩), .pointer (some ⟨kL, 0, none⟩)]) rfl trivial (enters_of Tryd.func53 (by kernel_rfl) rfl)
    hst keepJ_t (keepJ_b hJ2) (Below.refl _ _) (fun _ => rfl)
    (fun pre W => (∃ v, Boxed W kS 27 v ∧ W.ownsRow kS 2 1 v pre.length (lstJ a s d L pre) ∧ True) ∧ JAt W kn ke ks km kd kL a s d n L (jnE s d n L) ∧ G w W) (fun _ _ _ => False)
    (OwnFrom.and (Own.from (holdsRow_own kS kS 27 2 1 (fun pre => pre.length) (fun pre => lstJ a s d L pre) (fun _ _ => True)) _) (OwnFrom.and (ownFrom_jAt hJ2) (ownFrom_g gW.size)))
    (fun _ _ _ _ _ hs _ _ => hs) ⟨⟨_, hS, World.ownsRow_nil _ _ _ _, trivial⟩, hJ2, gW⟩ ?a1 ?assign ?body ?done ?stop
  case assign =>
    intro lq x W K hK
    dsimp only [encJ]
    gi_wp2
    exact hK
  case body =>
    rintro lq pre x W ⟨⟨v, hv, hrow, -⟩, bW, hg⟩ hlt2
    have hc := hv.cell
    have HS := Lib.hid (lstJ_snoc a s d L pre x)
    have hpl : pre.length ≤ 21 := by omega
    have hkW : kS < W.heap.size := World.block_lt_of_cell? W _ hc
    generalize jw a s d ((x : Int) + 1) L = y at *
    gi_wp2_with (gi_at_builtin; refine wpListIn_append_own _ rfl _ _ 27 rfl kS 2 i0 (.int .i64 0) 1 8 Tryd.underlying27 hi hz0 hz1 hz2 rfl (by decide) _ _ _ rfl (hrow.alloc _) ⟨W.heap.size, 0, none⟩ 1 1 [.int .i64 y] rfl rfl (cell_one_new _ _ _) (by simp [Value.oneCell']) (by simp [maxLen]; omega) (by omega) (by simp; omega) ?_; intro v' w1 hown' hgrow _; obtain ⟨g', cap', rfl⟩ := ownsRow_succ hown'; obtain ⟨hv1, hv2, hr2, hk2, hb2⟩ := hv.appended (by decide) hrow (Nat.le_of_lt hkW) (Nat.le_refl _) hown' hgrow; have hc1 := hv1.cell; have hf1 := hv1.frozen)
    have bF : JAt (w1.setCell ⟨kS, 0, none⟩ (.slice (some ⟨g', 0, none⟩) (pre.length + 1) cap')) kn ke ks km kd kL a s d n L (jnE s d n L) := by
      refine JAt.set_ ((bW.g ((G.refl W).alloc _)).grown hgrow fun r e hk => ?_) (fun h => Nat.lt_irrefl _ (HK.out _ h)) _ _
      have h1 := HK.out r hk
      have h2 := (hrow.lt r e).1
      omega
    exact ⟨hk2.from _, fun _ => bF, ⟨_, hv2, by rw [HS.out, List.length_append]; exact hr2, trivial⟩, bF, Below.trans hg (Below.mono hb2 hsz)⟩
  case done =>
    rintro D xs W hD rfl ⟨⟨v, hv, hrow, -⟩, bW, hg⟩ hK
    have c0 := hv.cell
    go_wp2
    refine ⟨by simp, .inl ⟨_, _, rfl, run_takeDeferred hK, ?_⟩⟩
    exact ⟨_, results_tmp2 rfl _ _ _, v, rfl, by rw [← lstJ_eq]; exact Rd.of_own (ownsRow_putObj hrow _ hK rfl), hg.put _ (Nat.le_trans gW.size hD) hK⟩
  case stop =>
    rintro D c pre W _ _ h _
    exact h.elim
def sumJ (a : Int) (s : ByteArray) (d L : Int) (pre : List Nat) : Int := (pre.map (fun (k : Nat) => jw a s d ((k : Int) + 1) L)).sum
theorem sumJ_snoc (a : Int) (s : ByteArray) (d L : Int) (pre : List Nat) (x : Nat) : sumJ a s d L (pre ++ [x]) = sumJ a s d L pre + jw a s d ((x : Int) + 1) L := by simp [sumJ]
theorem sumJ_bd (a : Int) (s : ByteArray) (d L : Int) (h0 : 0 ≤ L) (h1 : L ≤ 68719476736) (pre : List Nat) : 0 ≤ sumJ a s d L pre ∧ sumJ a s d L pre ≤ 68719476736 * pre.length := by
  induction pre with
  | nil => simp [sumJ]
  | cons x pre ih =>
    have := jw_bd2 a s d ((x : Int) + 1) L h0 h1
    simp only [sumJ, List.map_cons, List.sum_cons, List.length_cons] at ih ⊢
    omega
theorem jn_pos {s : ByteArray} {d n L : Int} {k : Nat} (h : k < jnN s d n L) : 0 ≤ L ∧ L ≤ 68719476736 := by
  by_cases hE : jnE s d n L = 0
  · exact (jnE_ok hE).2.2.2
  · rw [jnN_no hE] at h
    omega
set_option maxRecDepth 100000 in
set_option maxHeartbeats 2000000 in
theorem jtotal_any (a : Int) (s : ByteArray) (d n L : Int) (ha : u64 a) (n0 : -9223372036854775808 ≤ n) (n1 : n ≤ 9223372036854775807) (w : World) (ht : Tab w) :
    Calls Tryd.prog 16 #[.int .u64 a, .string s, .int .i64 d, .int .i64 n, .int .i64 L] w fun e w' => e = .returned (.tuple #[.int .i64 (sumJ a s d L (List.range (jnN s d n L))), .int .i64 (jnE s d n L)]) ∧ G w w' := by
  have HT := Lib.hid ht
  have hm := jnN_bd s d n L
  clear ht
  refine (callsIn_wide (n := 9)).1 (callsIn_of_wp_marks Tryd.func16 rfl trivial ?_ rfl)
  simp only [Tryd.ntmps16, List.size_toArray, List.length_cons, List.length_nil, Nat.reduceAdd, Nat.reduceSub, Array.replicate_succ, Array.replicate_zero, List.push_toArray, List.append_toArray, List.nil_append, List.cons_append]
  refine wpIn_wide.2 ?_
  go_wp2_with fail
  go_at_call 40
  refine (all_any a s d n L _ HT.out).mono ?_
  rintro e w1 ⟨kn, ke, ks, km, kd, kL, rfl, hJ, g1⟩
  go_wp2_with fail
  refine (wpIn_wide (n := 9)).1 ?_
  have hS : Blk (w1.alloc (.cells #[.int .i64 0] 2)) w1.heap.size 2 #[.int .i64 (sumJ a s d L [])] := Blk.new w1 _ _
  have gW : G w (w1.alloc (.cells #[.int .i64 0] 2)) := g1.alloc _
  have hJ2 := hJ.g ((G.refl w1).alloc (.cells #[.int .i64 0] 2))
  have hsz : w.heap.size ≤ w1.heap.size := g1.size
  have HK : Hid (∀ r, JAt.in_ kn ke ks km kd kL r → r < w1.heap.size) := Lib.hid (fun r h => hJ.lt h)
  clear hJ g1
  generalize (w1.alloc (.cells #[.int .i64 0] 2)) = w2 at *
  generalize w1.heap.size = kS at *
  have hst := all_stops 8 (by omega) kn ke ks km kd kL a s d n L ha n0 n1 w2 hJ2
  refine wpIn_rangeFunc_ownF rfl (by omega) (gf := 53) (lb := #[.pointer (some ⟨kn, 0, none⟩), .pointer (some ⟨ke, 0, none⟩), .pointer (some ⟨ks, 0, none⟩), .pointer (some ⟨km, 0, none⟩), .pointer (some ⟨kd, 0, none⟩), .pointer (some ⟨kL, 0, none⟩)]) rfl trivial (enters_of Tryd.func53 (by kernel_rfl) rfl)
    hst keepJ_t (keepJ_b hJ2) (Below.refl _ _) (fun _ => rfl)
    (fun pre W => Blk W kS 2 #[.int .i64 (sumJ a s d L pre)] ∧ G w W) (fun _ _ _ => False)
    (OwnFrom.and (ownFrom_blk _ kS 2 (fun pre => #[.int .i64 (sumJ a s d L pre)])) (ownFrom_g gW.size))
    (fun _ _ _ _ _ hs _ _ => hs) ⟨hS, gW⟩ ?a1 ?assign ?body ?done ?stop
  case assign =>
    intro lq x W K hK
    dsimp only [encJ]
    gi_wp2
    exact hK
  case body =>
    rintro lq pre x W ⟨hs, hg⟩ hlt2
    obtain ⟨hL0, hL1⟩ := jn_pos hlt2
    have c0 : W.cell? ⟨kS, 0, none⟩ = some (.int .i64 (sumJ a s d L pre)) := hs.cell 0
    have f0 := hs.frozen 0
    have HS := Lib.hid (sumJ_snoc a s d L pre x)
    have hb1 := sumJ_bd a s d L hL0 hL1 pre
    have hb2 := jw_bd2 a s d ((x : Int) + 1) L hL0 hL1
    have hpl : pre.length ≤ 21 := by omega
    have HK2 : Hid (¬ JAt.in_ kn ke ks km kd kL kS) := Lib.hid (fun h => Nat.lt_irrefl _ (HK.out _ h))
    generalize jw a s d ((x : Int) + 1) L = y at *
    obtain ⟨S, hSS⟩ : ∃ S, sumJ a s d L pre = S := ⟨_, rfl⟩
    rw [hSS] at c0 hb1
    have HS2 : Hid (sumJ a s d L (pre ++ [x]) = S + y) := Lib.hid (by rw [HS.out, hSS])
    clear HS
    have hw : IntKind.i64.wrap (S + y) = S + y := by rw [IntKind.wrap_i64]; omega
    gi_wp2
    exact ⟨KeepsOthers.setCell _ _ _, fun r => r.set_ HK2.out _ _, by rw [HS2.out]; exact hs.set_ 0 _, hg.setCell (p := ⟨kS, 0, none⟩) hsz _⟩
  case done =>
    rintro D xs W hD rfl ⟨hs, hg⟩ hK
    have c0 : W.cell? ⟨kS, 0, none⟩ = some (.int .i64 (sumJ a s d L (List.range (jnN s d n L)))) := hs.cell 0
    go_wp2
    refine ⟨by simp, .inl ⟨_, _, rfl, run_takeDeferred hK, ?_⟩⟩
    exact ⟨_, results_tmp2 rfl _ _ _, rfl, hg.put _ (Nat.le_trans gW.size hD) hK⟩
  case stop =>
    rintro D c pre W _ _ h _
    exact h.elim
/-- the first of the smallest jitters: its number from 1 on (0: none), and its value -/
def ltF (f : Nat → Int) (pre : List Nat) : Int × Int := pre.foldl (fun p k => if p.1 = 0 ∨ f k < p.2 then ((k : Int) + 1, f k) else p) (0, 0)
theorem ltF_snoc (f : Nat → Int) (pre : List Nat) (x : Nat) : ltF f (pre ++ [x]) = if (ltF f pre).1 = 0 ∨ f x < (ltF f pre).2 then ((x : Int) + 1, f x) else ltF f pre := by unfold ltF; rw [List.foldl_append]; rfl
def lstF (a : Int) (s : ByteArray) (d L : Int) (k : Nat) : Int := jw a s d ((k : Int) + 1) L
def ltE (s : ByteArray) (d n L : Int) : Int := if jnE s d n L = 0 ∧ n = 0 then 5 else jnE s d n L
theorem ltF_fst (f : Nat → Int) (m : Nat) : (ltF f (List.range m)).1 = 0 ↔ m = 0 := by
  induction m with
  | zero => simp [ltF]
  | succ m ih =>
    rw [List.range_succ, ltF_snoc]
    by_cases h : (ltF f (List.range m)).1 = 0 ∨ f m < (ltF f (List.range m)).2
    · rw [if_pos h]
      simp
      omega
    · rw [if_neg h]
      have := not_or.1 h
      simp [this.1]
theorem ltF_pos (f : Nat → Int) (pre : List Nat) : 0 ≤ (ltF f pre).1 := by
  rw [← List.reverse_reverse pre]
  induction pre.reverse with
  | nil => simp [ltF]
  | cons x l ih =>
    rw [List.reverse_cons, ltF_snoc]
    split
    · simp; omega
    · exact ih
set_option maxRecDepth 100000 in
set_option maxHeartbeats 4000000 in
theorem jleast_any (a : Int) (s : ByteArray) (d n L : Int) (ha : u64 a) (n0 : -9223372036854775808 ≤ n) (n1 : n ≤ 9223372036854775807) (w : World) (ht : Tab w) :
    Calls Tryd.prog 29 #[.int .u64 a, .string s, .int .i64 d, .int .i64 n, .int .i64 L] w fun e w' => e = .returned (.tuple #[.int .i64 (ltF (lstF a s d L) (List.range (jnN s d n L))).1, .int .i64 (ltF (lstF a s d L) (List.range (jnN s d n L))).2, .int .i64 (ltE s d n L)]) ∧ G w w' := by
  have HT := Lib.hid ht
  have hm := jnN_bd s d n L
  clear ht
  refine (callsIn_wide (n := 9)).1 (callsIn_of_wp_marks Tryd.func29 rfl trivial ?_ rfl)
  simp only [Tryd.ntmps29, List.size_toArray, List.length_cons, List.length_nil, Nat.reduceAdd, Nat.reduceSub, Array.replicate_succ, Array.replicate_zero, List.push_toArray, List.append_toArray, List.nil_append, List.cons_append]
  refine wpIn_wide.2 ?_
  go_wp2_with fail
  go_at_call 40
  refine (all_any a s d n L _ HT.out).mono ?_
  rintro e w1 ⟨kn, ke, ks, km, kd, kL, rfl, hJ, g1⟩
  go_wp2_with fail
  refine (wpIn_wide (n := 9)).1 ?_
  have hA : Blk ((w1.alloc (.cells #[.int .i64 0] 3)).alloc (.cells #[.int .i64 0] 2)) w1.heap.size 3 #[.int .i64 (ltF (lstF a s d L) []).1] := (Blk.new w1 _ _).alloc _
  have hB : Blk ((w1.alloc (.cells #[.int .i64 0] 3)).alloc (.cells #[.int .i64 0] 2)) (w1.heap.size + 1) 2 #[.int .i64 (ltF (lstF a s d L) []).2] := Blk.new1 w1 _ _ _
  have gW : G w ((w1.alloc (.cells #[.int .i64 0] 3)).alloc (.cells #[.int .i64 0] 2)) := (g1.alloc _).alloc _
  have hJ2 := hJ.g (((G.refl w1).alloc (.cells #[.int .i64 0] 3)).alloc (.cells #[.int .i64 0] 2))
  have hsz : w.heap.size ≤ w1.heap.size := g1.size
  have HK : Hid (∀ r, JAt.in_ kn ke ks km kd kL r → r < w1.heap.size) := Lib.hid (fun r h => hJ.lt h)
  clear hJ g1
  generalize ((w1.alloc (.cells #[.int .i64 0] 3)).alloc (.cells #[.int .i64 0] 2)) = w2 at *
  generalize w1.heap.size = kA at *
  have HN : Hid (¬ JAt.in_ kn ke ks km kd kL kA ∧ ¬ JAt.in_ kn ke ks km kd kL (kA + 1) ∧ kA ≠ kA + 1 ∧ w.heap.size ≤ kA ∧ w.heap.size ≤ kA + 1) := Lib.hid ⟨fun h => Nat.lt_irrefl _ (HK.out _ h), fun h => by have := HK.out _ h; omega, by omega, hsz, by omega⟩
  generalize kA + 1 = kB at *
  have hst := all_stops 8 (by omega) kn ke ks km kd kL a s d n L ha n0 n1 w2 hJ2
  refine wpIn_rangeFunc_ownF rfl (by omega) (gf := 53) (lb := #[.pointer (some ⟨kn, 0, none⟩), .pointer (some ⟨ke, 0, none⟩), .pointer (some ⟨ks, 0, none⟩), .pointer (some ⟨km, 0, none⟩), .pointer (some ⟨kd, 0, none⟩), .pointer (some ⟨kL, 0, none⟩)]) rfl trivial (enters_of Tryd.func53 (by kernel_rfl) rfl)
    hst keepJ_t (keepJ_b hJ2) (Below.refl _ _) (fun _ => rfl)
    (fun pre W => Blk W kA 3 #[.int .i64 (ltF (lstF a s d L) pre).1] ∧ Blk W kB 2 #[.int .i64 (ltF (lstF a s d L) pre).2] ∧ G w W) (fun _ _ _ => False)
    (OwnFrom.and (ownFrom_blk _ kA 3 (fun pre => #[.int .i64 (ltF (lstF a s d L) pre).1])) (OwnFrom.and (ownFrom_blk _ kB 2 (fun pre => #[.int .i64 (ltF (lstF a s d L) pre).2])) (ownFrom_g gW.size)))
    (fun _ _ _ _ _ hs _ _ => hs) ⟨hA, hB, gW⟩ ?a1 ?assign ?body ?done ?stop
  case assign =>
    intro lq x W K hK
    dsimp only [encJ]
    gi_wp2
    exact hK
  case body =>
    rintro lq pre x W ⟨hA, hB, hg⟩ hlt2
    have cA : W.cell? ⟨kA, 0, none⟩ = some (.int .i64 (ltF (lstF a s d L) pre).1) := hA.cell 0
    have cB : W.cell? ⟨kB, 0, none⟩ = some (.int .i64 (ltF (lstF a s d L) pre).2) := hB.cell 0
    have fA := hA.frozen 0
    have fB := hB.frozen 0
    have HS := Lib.hid (ltF_snoc (lstF a s d L) pre x)
    have HF : Hid (lstF a s d L x = jw a s d ((x : Int) + 1) L) := Lib.hid rfl
    rw [HF.out] at HS
    clear HF
    have hwx : IntKind.i64.wrap ((x : Int) + 1) = (x : Int) + 1 ∨ True := .inr trivial
    clear hwx
    generalize jw a s d ((x : Int) + 1) L = y at *
    obtain ⟨m1, m2, m3, m4, m5⟩ := HN.out
    by_cases hAz : (ltF (lstF a s d L) pre).1 = 0
    · have HU : Hid (ltF (lstF a s d L) (pre ++ [x]) = ((x : Int) + 1, y)) := Lib.hid (by rw [HS.out, if_pos (.inl hAz)])
      rw [hAz] at cA
      clear hAz HS
      gi_wp2
      refine ⟨(KeepsOthers.setCell _ _ _).trans (KeepsOthers.setCell _ _ _), fun r => (r.set_ m1 _ _).set_ m2 _ _, ?_, ?_, (hg.setCell (p := ⟨kA, 0, none⟩) m4 _).setCell (p := ⟨kB, 0, none⟩) m5 _⟩
      · rw [HU.out]; exact Blk.far (hA.set_ 0 _) m3 _
      · rw [HU.out]; exact (Blk.far hB (Ne.symm m3) _).set_ 0 _
    · generalize hP : ltF (lstF a s d L) pre = P at *
      by_cases hlt : y < P.2
      · have HU : Hid (ltF (lstF a s d L) (pre ++ [x]) = ((x : Int) + 1, y)) := Lib.hid (by rw [HS.out, if_pos (.inr hlt)])
        have hAb : (P.1 == 0) = false := by simpa using hAz
        clear hAz HS
        obtain ⟨P1, P2⟩ := P
        dsimp only at *
        gi_wp2
        refine ⟨(KeepsOthers.setCell _ _ _).trans (KeepsOthers.setCell _ _ _), fun r => (r.set_ m1 _ _).set_ m2 _ _, ?_, ?_, (hg.setCell (p := ⟨kA, 0, none⟩) m4 _).setCell (p := ⟨kB, 0, none⟩) m5 _⟩
        · rw [HU.out]; exact Blk.far (hA.set_ 0 _) m3 _
        · rw [HU.out]; exact (Blk.far hB (Ne.symm m3) _).set_ 0 _
      · have HU : Hid (ltF (lstF a s d L) (pre ++ [x]) = P) := Lib.hid (by rw [HS.out, if_neg (not_or.2 ⟨hAz, hlt⟩)])
        have hAb : (P.1 == 0) = false := by simpa using hAz
        clear hAz HS
        obtain ⟨P1, P2⟩ := P
        dsimp only at *
        gi_wp2
        exact ⟨KeepsOthers.refl _, fun r => r, by rw [HU.out]; exact hA, by rw [HU.out]; exact hB, hg⟩
  case done =>
    rintro D xs W hD rfl ⟨hA, hB, hg⟩ hK
    have HL : Hid (ltE s d n L = if jnE s d n L = 0 ∧ n = 0 then 5 else jnE s d n L) := Lib.hid rfl
    have HZ := Lib.hid (ltF_fst (lstF a s d L) (jnN s d n L))
    have HM : Hid (jnE s d n L = 0 → jnN s d n L = n.toNat ∧ 0 ≤ n) := Lib.hid (fun h => ⟨jnN_ok h, (jnE_ok h).2.2.1.1⟩)
    have cA : W.cell? ⟨kA, 0, none⟩ = some (.int .i64 (ltF (lstF a s d L) (List.range (jnN s d n L))).1) := hA.cell 0
    have cB : W.cell? ⟨kB, 0, none⟩ = some (.int .i64 (ltF (lstF a s d L) (List.range (jnN s d n L))).2) := hB.cell 0
    by_cases hE : jnE s d n L = 0
    · by_cases hn : n = 0
      · have h5 : ltE s d n L = 5 := by rw [HL.out, if_pos ⟨hE, hn⟩]
        have hz : (ltF (lstF a s d L) (List.range (jnN s d n L))).1 = 0 := HZ.out.2 (by rw [(HM.out hE).1, hn]; rfl)
        rw [hE]
        rw [hz] at cA
        clear hn
        go_wp2
        go_quiet (fail)
        go_wp2
        refine ⟨by simp, .inl ⟨_, _, rfl, run_takeDeferred (show (World.drewN _ _).heap[D]? = _ from hK), ?_⟩⟩
        exact ⟨_, results_tmp3 rfl _ _ _, by rw [hz, h5]; rfl, (hg.drewN _).put _ (Nat.le_trans gW.size hD) hK⟩
      · have h5 : ltE s d n L = 0 := by rw [HL.out, if_neg (fun h => hn h.2)]; exact hE
        have hz : ((ltF (lstF a s d L) (List.range (jnN s d n L))).1 == 0) = false := by
          have h6 := HM.out hE
          have h7 : ¬ (ltF (lstF a s d L) (List.range (jnN s d n L))).1 = 0 := fun h => by
            have := HZ.out.1 h
            omega
          simpa using h7
        rw [hE]
        go_wp2
        go_quiet (fail)
        go_wp2
        refine ⟨by simp, .inl ⟨_, _, rfl, run_takeDeferred (show (World.drewN _ _).heap[D]? = _ from hK), ?_⟩⟩
        exact ⟨_, results_tmp3 rfl _ _ _, by rw [h5]; rfl, (hg.drewN _).put _ (Nat.le_trans gW.size hD) hK⟩
    · have h5 : ltE s d n L = jnE s d n L := by rw [HL.out, if_neg (fun h => hE h.1)]
      have hEb : (jnE s d n L == 0) = false := by simpa using hE
      go_wp2
      go_quiet (fail)
      go_wp2
      refine ⟨by simp, .inl ⟨_, _, rfl, run_takeDeferred (show (World.drewN _ _).heap[D]? = _ from hK), ?_⟩⟩
      exact ⟨_, results_tmp3 rfl _ _ _, by rw [h5]; rfl, (hg.drewN _).put _ (Nat.le_trans gW.size hD) hK⟩
  case stop =>
    rintro D c pre W _ _ h _
    exact h.elim
end Go.Proofs.YtahjiiigpndaeaaDoor
