/-
  Package hash: Splays and Splay.
-/
import Derived.Test.YtodijghpeikmoaaDoorHsX
import Derived.Maps.AppendAt
set_option linter.unusedVariables false
set_option linter.unusedSimpArgs false
namespace Go.Proofs.YtodijghpeikmoaaDoor
open Go.RowKit Go.Shelf
attribute [local go_sem] Oper.semAt_some

theorem ownFrom_plAt {b0 b1 b2 : Nat} {A : Option Addr} {c : Nat} {a n : Int} {l : List ByteArray} {w : World} (h : PlAt w b0 b1 b2 A c a n l) : OwnFrom w.heap.size (fun (_ : List ByteArray) W => PlAt W b0 b1 b2 A c a n l) := by
  intro s W W' row hs hg hr
  have far : ∀ {k : Nat}, k < w.heap.size → some k ≠ row := fun hk e => by
    have := (hr _ e.symm).1
    omega
  refine hs.grown hg (far h.x0.lt) (far h.x1.lt) (far h.x2.lt) ?_ (far h.tb.1)
  intro k o hz e
  obtain ⟨b, o3, e2, d⟩ := h.rd 0 hz
  rw [e] at e2
  cases e2
  exact far (World.block_lt_of_cell? w _ d)
/-- the places of a list of names -/
def plL (a n : Int) (l : List ByteArray) : List Int := l.map (placeI a n)
def lstP (a n : Int) (pre : List ByteArray) : List Value := pre.map (fun s => .int .i64 (placeI a n s))
theorem lstP_snoc (a n : Int) (pre : List ByteArray) (x : ByteArray) : lstP a n (pre ++ [x]) = lstP a n pre ++ [.int .i64 (placeI a n x)] := by simp [lstP]
theorem lstP_len (a n : Int) (pre : List ByteArray) : (lstP a n pre).length = pre.length := by simp [lstP]
theorem lstP_eq (a n : Int) (l : List ByteArray) : lstP a n l = vI .i64 (plL a n l) := by simp [lstP, vI, plL]
/-- what Splays answers: its error, its list -/
def spE (l : List ByteArray) (n : Int) : Int := if chkH l = 0 then (if 0 ≤ n ∧ n ≤ 68719476736 then 0 else 2) else chkH l
def spL (a n : Int) (l : List ByteArray) : List Int := if spE l n = 0 then plL a (max n 1) l else []
def spV (a n : Int) (s : ByteArray) : Int := if spE [s] n = 0 then placeI a (max n 1) s else 0
theorem spE_bd (l : List ByteArray) (n : Int) : spE l n = 0 ∨ spE l n = 2 ∨ spE l n = 12 ∨ spE l n = 15 := by
  unfold spE
  have := chkH_bd l
  split
  · split <;> simp
  · omega
theorem nmB_size {s : ByteArray} (h : nmB s = true) : s.size ≤ 24 := by
  unfold nmB at h
  simp at h
  omega
theorem chk_okS {l : List ByteArray} (h : chkH l = 0) : okS l := by
  intro j
  have h2 : nmsAll l = true := by
    unfold chkH at h
    split at h
    · omega
    · split at h
      · assumption
      · omega
  rcases Nat.lt_or_ge j l.length with hj | hj
  · rw [List.getElem?_eq_getElem hj]
    have := nmB_size (List.all_eq_true.1 h2 l[j] (List.getElem_mem hj))
    simp only [Option.getD_some]
    omega
  · rw [List.getElem?_eq_none hj]
    decide
theorem info_i64 : (Tryd.prog.info? 2).map (fun i => (i.zero, i.size, i.bytes)) = some (some (.int .i64 0), 1, 8) := by kernel_rfl
set_option maxRecDepth 100000 in
set_option maxHeartbeats 2000000 in
theorem splays_at (n N : Int) (hN : n = 0 ∧ N = 1 ∨ 1 ≤ n ∧ N = n) (hn2 : n ≤ 68719476736) (l : List ByteArray) (v : Value) (a : Int) (ha : u64 a) (w : World) (hv : Rd w v (vS l)) (ht : Tab w) (hok : okS l) (hc : chkH l = 0) :
    Calls Tryd.prog 16 #[v, .int .u64 a, .int .i64 n] w fun e w' => ∃ v', e = .returned (.tuple #[v', .int .i64 0]) ∧ Rd w' v' (vI .i64 (plL a N l)) ∧ G w w' := by
  have hll := chkH_ok hc
  have HV := Lib.hid hv
  obtain ⟨A, c, rfl, hcc, hcm, hr⟩ := hv
  rw [vS_len] at *
  have HR : Hid (∀ k, k < l.length → ∃ b o, A = some ⟨b, o, none⟩ ∧ w.cell? ⟨b, o + k, none⟩ = some (.string (l[k]?.getD ByteArray.empty))) := Lib.hid (fun k hk => by
      obtain ⟨b, o, e, h⟩ := hr (by omega)
      exact ⟨b, o, e, h k _ (vS_get hk)⟩)
  have HC := Lib.hid hc
  have HT := Lib.hid ht
  have HO := Lib.hid hok
  have hN0 : 0 < N := by omega
  have hN2 : N ≤ 68719476736 := by omega
  have hwn : IntKind.u64.wrap N = N := by rw [IntKind.wrap_u64]; omega
  obtain ⟨i0, hi, hz0, hz1, hz2⟩ := info_parts info_i64
  clear hr hc ht hok
  refine (callsIn_wide (n := 9)).1 (callsIn_of_wp_marks Tryd.func16 rfl trivial ?_ rfl)
  simp only [Tryd.ntmps16, List.size_toArray, List.length_cons, List.length_nil, Nat.reduceAdd, Nat.reduceSub, Array.replicate_succ, Array.replicate_zero, List.push_toArray, List.append_toArray, List.nil_append, List.cons_append]
  refine wpIn_wide.2 ?_
  go_wp2_with fail
  go_at_call 30
  refine (hcheck_any l _ _ HV.out).mono ?_
  rintro e w1 ⟨rfl, g1⟩
  rw [HC.out]
  rcases hN with ⟨rfl, rfl⟩ | ⟨hn, hNn⟩
  · go_wp2_with fail
    go_at_call 31
    refine (places_any A l.length c a 1 _).mono ?_
    rintro e w2 ⟨rfl, rfl⟩
    go_wp2_with fail
    refine (wpIn_wide (n := 9)).1 ?_
    have hS : Boxed (w1.alloc (.cells #[.slice none 0 0] 28)) w1.heap.size 28 (.slice none 0 0) := Boxed.new w1 28 (.slice none 0 0)
    have gW2 : G w (w1.alloc (.cells #[.slice none 0 0] 28)) := g1.alloc _
    have hsz : w.heap.size ≤ w1.heap.size := g1.size
    have hz2' : (w1.alloc (.cells #[.slice none 0 0] 28)).heap.size = w1.heap.size + 1 := by simp [World.size_alloc]
    generalize (w1.alloc (.cells #[.slice none 0 0] 28)) = w2 at *
    generalize w1.heap.size = kS at *
    have hPl : PlAt (((w2.alloc (.cells #[.slice A l.length c] 22)).alloc (.cells #[.int .u64 a] 23)).alloc (.cells #[.int .u64 1] 23)) w2.heap.size (w2.heap.size + 1) (w2.heap.size + 1 + 1) A c a 1 l :=
      ⟨((Blk.new w2 _ _).alloc _).alloc _, (Blk.new1 w2 _ _ _).alloc _, Blk.new2 w2 _ _ _ _, fun k hk => by
        obtain ⟨b, o, e, d⟩ := HR.out k hk
        exact ⟨b, o, e, (((gW2.alloc _).alloc _).alloc _).cell (World.block_lt_of_cell? w _ d) d⟩, HT.out.g (((gW2.alloc _).alloc _).alloc _)⟩
    have hS3 := ((hS.alloc (.cells #[.slice A l.length c] 22)).alloc (.cells #[.int .u64 a] 23)).alloc (.cells #[.int .u64 1] 23)
    have gW3 := ((gW2.alloc (.cells #[.slice A l.length c] 22)).alloc (.cells #[.int .u64 a] 23)).alloc (.cells #[.int .u64 1] 23)
    clear hS gW2 g1 HV
    generalize ((w2.alloc (.cells #[.slice A l.length c] 22)).alloc (.cells #[.int .u64 a] 23)).alloc (.cells #[.int .u64 1] 23) = w3 at *
    rw [hz2'] at *
    clear hz2' w2
    generalize hkA : kS + 1 = kA at *
    generalize hkB : kA + 1 = kB at *
    generalize hkC : kB + 1 = kC at *
    have HN : Hid (kS ≠ kA ∧ kS ≠ kB ∧ kS ≠ kC ∧ w.heap.size ≤ kS) := Lib.hid (by omega)
    clear hkA hkB hkC
    have hst := places_stops 8 (by omega) kA kB kC A c a 1 l HO.out (by omega) (by omega) hll hcc hcm ha w3 hPl
    refine wpIn_rangeFunc_ownG rfl (by omega) (gf := 40) (lb := #[.pointer (some ⟨kA, 0, none⟩), .pointer (some ⟨kB, 0, none⟩), .pointer (some ⟨kC, 0, none⟩)]) rfl trivial (enters_of Tryd.func40 (by kernel_rfl) rfl)
      hst keepP_t keepP_b (Below.refl _ _) (fun _ => rfl)
      (fun pre W => (∃ v, Boxed W kS 28 v ∧ W.ownsRow w.heap.size 2 1 v pre.length (lstP a 1 pre) ∧ True) ∧ PlAt W kA kB kC A c a 1 l ∧ G w W) (fun _ _ _ => False)
      (OwnFrom.and (Own.from (holdsRow_own w.heap.size kS 28 2 1 (fun pre => pre.length) (fun pre => lstP a 1 pre) (fun _ _ => True)) _) (OwnFrom.and (ownFrom_plAt hPl) (ownFrom_g gW3.size)))
      (fun _ _ _ _ _ hs _ _ => hs) ⟨⟨_, hS3, World.ownsRow_nil _ _ _ _, trivial⟩, hPl, gW3⟩ ?a1 ?assign ?body ?done ?stop
    case assign =>
      intro lq x W K hK
      dsimp only [encP]
      gi_wp2
      exact hK
    case body =>
      rintro lq pre x W ⟨⟨v, hv, hrow, -⟩, bW, hg⟩ hlt2
      have hc := hv.cell
      have HS := Lib.hid (lstP_snoc a 1 pre x)
      have hpl : pre.length ≤ 64 := by omega
      generalize placeI a 1 x = y at *
      obtain ⟨m1, m2, m3, m4⟩ := HN.out
      gi_wp2_with (gi_at_builtin; refine wpListIn_append_own _ rfl _ _ 28 rfl w.heap.size 2 i0 (.int .i64 0) 1 8 Tryd.underlying28 hi hz0 hz1 hz2 rfl (by decide) _ _ _ rfl (hrow.alloc _) ⟨W.heap.size, 0, none⟩ 1 1 [.int .i64 y] rfl rfl (cell_one_new _ _ _) (by simp [Value.oneCell']) (by simp [maxLen]; omega) (by omega) (by have := hg.size; simp; omega) ?_; intro v' w1 hown' hgrow _; obtain ⟨g', cap', rfl⟩ := ownsRow_succ hown'; obtain ⟨hv1, hv2, hr2, hk2, hb2⟩ := hv.appended (by decide) hrow hg.size m4 hown' hgrow; have hc1 := hv1.cell; have hf1 := hv1.frozen)
      have bA := bW.g ((G.refl W).alloc (.cells #[.int .i64 y] 2))
      have bG : PlAt w1 kA kB kC A c a 1 l := by
        refine bA.grown hgrow (Blk.not_row bW.x0 (by decide) hrow) (Blk.not_row bW.x1 (by decide) hrow) (Blk.not_row bW.x2 (by decide) hrow) ?_ ?_
        · intro k o hz e h2
          have h3 := (hrow.lt k h2.symm).1
          obtain ⟨b, o2, e2, d⟩ := HR.out 0 hz
          rw [e] at e2
          cases e2
          have := World.block_lt_of_cell? w _ d
          simp at this
          omega
        · intro h2
          have h3 := (hrow.lt 0 h2.symm).1
          have := HT.out.1
          omega
      have bF : PlAt (w1.setCell ⟨kS, 0, none⟩ (.slice (some ⟨g', 0, none⟩) (pre.length + 1) cap')) kA kB kC A c a 1 l := by
        refine bG.grown (grown_setCell (grown_of_G (G.refl _) (some kS)) 0 _) (by simpa using Ne.symm m1) (by simpa using Ne.symm m2) (by simpa using Ne.symm m3) ?_ ?_
        · intro k o hz e
          obtain ⟨b, o2, e2, d⟩ := HR.out 0 hz
          rw [e] at e2
          cases e2
          have := World.block_lt_of_cell? w _ d
          simp at this ⊢
          omega
        · have := HT.out.1
          simp
          omega
      exact ⟨hk2.from _, fun _ => bF, ⟨_, hv2, by rw [HS.out, List.length_append]; exact hr2, trivial⟩, bF, Below.trans hg hb2⟩
    case done =>
      rintro D xs W hD rfl ⟨⟨v, hv, hrow, -⟩, bW, hg⟩ hK
      have c0 := hv.cell
      go_wp2
      refine ⟨by simp, .inl ⟨_, _, rfl, run_takeDeferred hK, ?_⟩⟩
      exact ⟨_, results_tmp2 rfl _ _ _, v, rfl, by rw [← lstP_eq]; exact Rd.of_own (ownsRow_putObj hrow _ hK rfl), hg.put _ (Nat.le_trans gW3.size hD) hK⟩
    case stop =>
      rintro D c pre W _ _ h _
      exact h.elim
  · have hNe : N = n := hNn
    subst hNe
    go_wp2_with fail
    go_at_call 31
    refine (places_any A l.length c a N _).mono ?_
    rintro e w2 ⟨rfl, rfl⟩
    go_wp2_with fail
    refine (wpIn_wide (n := 9)).1 ?_
    have hS : Boxed (w1.alloc (.cells #[.slice none 0 0] 28)) w1.heap.size 28 (.slice none 0 0) := Boxed.new w1 28 (.slice none 0 0)
    have gW2 : G w (w1.alloc (.cells #[.slice none 0 0] 28)) := g1.alloc _
    have hsz : w.heap.size ≤ w1.heap.size := g1.size
    have hz2' : (w1.alloc (.cells #[.slice none 0 0] 28)).heap.size = w1.heap.size + 1 := by simp [World.size_alloc]
    generalize (w1.alloc (.cells #[.slice none 0 0] 28)) = w2 at *
    generalize w1.heap.size = kS at *
    have hPl : PlAt (((w2.alloc (.cells #[.slice A l.length c] 22)).alloc (.cells #[.int .u64 a] 23)).alloc (.cells #[.int .u64 N] 23)) w2.heap.size (w2.heap.size + 1) (w2.heap.size + 1 + 1) A c a N l :=
      ⟨((Blk.new w2 _ _).alloc _).alloc _, (Blk.new1 w2 _ _ _).alloc _, Blk.new2 w2 _ _ _ _, fun k hk => by
        obtain ⟨b, o, e, d⟩ := HR.out k hk
        exact ⟨b, o, e, (((gW2.alloc _).alloc _).alloc _).cell (World.block_lt_of_cell? w _ d) d⟩, HT.out.g (((gW2.alloc _).alloc _).alloc _)⟩
    have hS3 := ((hS.alloc (.cells #[.slice A l.length c] 22)).alloc (.cells #[.int .u64 a] 23)).alloc (.cells #[.int .u64 N] 23)
    have gW3 := ((gW2.alloc (.cells #[.slice A l.length c] 22)).alloc (.cells #[.int .u64 a] 23)).alloc (.cells #[.int .u64 N] 23)
    clear hS gW2 g1 HV
    generalize ((w2.alloc (.cells #[.slice A l.length c] 22)).alloc (.cells #[.int .u64 a] 23)).alloc (.cells #[.int .u64 N] 23) = w3 at *
    rw [hz2'] at *
    clear hz2' w2
    generalize hkA : kS + 1 = kA at *
    generalize hkB : kA + 1 = kB at *
    generalize hkC : kB + 1 = kC at *
    have HN : Hid (kS ≠ kA ∧ kS ≠ kB ∧ kS ≠ kC ∧ w.heap.size ≤ kS) := Lib.hid (by omega)
    clear hkA hkB hkC
    have hst := places_stops 8 (by omega) kA kB kC A c a N l HO.out (by omega) (by omega) hll hcc hcm ha w3 hPl
    refine wpIn_rangeFunc_ownG rfl (by omega) (gf := 40) (lb := #[.pointer (some ⟨kA, 0, none⟩), .pointer (some ⟨kB, 0, none⟩), .pointer (some ⟨kC, 0, none⟩)]) rfl trivial (enters_of Tryd.func40 (by kernel_rfl) rfl)
      hst keepP_t keepP_b (Below.refl _ _) (fun _ => rfl)
      (fun pre W => (∃ v, Boxed W kS 28 v ∧ W.ownsRow w.heap.size 2 1 v pre.length (lstP a N pre) ∧ True) ∧ PlAt W kA kB kC A c a N l ∧ G w W) (fun _ _ _ => False)
      (OwnFrom.and (Own.from (holdsRow_own w.heap.size kS 28 2 1 (fun pre => pre.length) (fun pre => lstP a N pre) (fun _ _ => True)) _) (OwnFrom.and (ownFrom_plAt hPl) (ownFrom_g gW3.size)))
      (fun _ _ _ _ _ hs _ _ => hs) ⟨⟨_, hS3, World.ownsRow_nil _ _ _ _, trivial⟩, hPl, gW3⟩ ?a1b ?assignb ?bodyb ?doneb ?stopb
    case assignb =>
      intro lq x W K hK
      dsimp only [encP]
      gi_wp2
      exact hK
    case bodyb =>
      rintro lq pre x W ⟨⟨v, hv, hrow, -⟩, bW, hg⟩ hlt2
      have hc := hv.cell
      have HS := Lib.hid (lstP_snoc a N pre x)
      have hpl : pre.length ≤ 64 := by omega
      generalize placeI a N x = y at *
      obtain ⟨m1, m2, m3, m4⟩ := HN.out
      gi_wp2_with (gi_at_builtin; refine wpListIn_append_own _ rfl _ _ 28 rfl w.heap.size 2 i0 (.int .i64 0) 1 8 Tryd.underlying28 hi hz0 hz1 hz2 rfl (by decide) _ _ _ rfl (hrow.alloc _) ⟨W.heap.size, 0, none⟩ 1 1 [.int .i64 y] rfl rfl (cell_one_new _ _ _) (by simp [Value.oneCell']) (by simp [maxLen]; omega) (by omega) (by have := hg.size; simp; omega) ?_; intro v' w1 hown' hgrow _; obtain ⟨g', cap', rfl⟩ := ownsRow_succ hown'; obtain ⟨hv1, hv2, hr2, hk2, hb2⟩ := hv.appended (by decide) hrow hg.size m4 hown' hgrow; have hc1 := hv1.cell; have hf1 := hv1.frozen)
      have bA := bW.g ((G.refl W).alloc (.cells #[.int .i64 y] 2))
      have bG : PlAt w1 kA kB kC A c a N l := by
        refine bA.grown hgrow (Blk.not_row bW.x0 (by decide) hrow) (Blk.not_row bW.x1 (by decide) hrow) (Blk.not_row bW.x2 (by decide) hrow) ?_ ?_
        · intro k o hz e h2
          have h3 := (hrow.lt k h2.symm).1
          obtain ⟨b, o2, e2, d⟩ := HR.out 0 hz
          rw [e] at e2
          cases e2
          have := World.block_lt_of_cell? w _ d
          simp at this
          omega
        · intro h2
          have h3 := (hrow.lt 0 h2.symm).1
          have := HT.out.1
          omega
      have bF : PlAt (w1.setCell ⟨kS, 0, none⟩ (.slice (some ⟨g', 0, none⟩) (pre.length + 1) cap')) kA kB kC A c a N l := by
        refine bG.grown (grown_setCell (grown_of_G (G.refl _) (some kS)) 0 _) (by simpa using Ne.symm m1) (by simpa using Ne.symm m2) (by simpa using Ne.symm m3) ?_ ?_
        · intro k o hz e
          obtain ⟨b, o2, e2, d⟩ := HR.out 0 hz
          rw [e] at e2
          cases e2
          have := World.block_lt_of_cell? w _ d
          simp at this ⊢
          omega
        · have := HT.out.1
          simp
          omega
      exact ⟨hk2.from _, fun _ => bF, ⟨_, hv2, by rw [HS.out, List.length_append]; exact hr2, trivial⟩, bF, Below.trans hg hb2⟩
    case doneb =>
      rintro D xs W hD rfl ⟨⟨v, hv, hrow, -⟩, bW, hg⟩ hK
      have c0 := hv.cell
      go_wp2
      refine ⟨by simp, .inl ⟨_, _, rfl, run_takeDeferred hK, ?_⟩⟩
      exact ⟨_, results_tmp2 rfl _ _ _, v, rfl, by rw [← lstP_eq]; exact Rd.of_own (ownsRow_putObj hrow _ hK rfl), hg.put _ (Nat.le_trans gW3.size hD) hK⟩
    case stopb =>
      rintro D c pre W _ _ h _
      exact h.elim
set_option maxHeartbeats 2000000 in
theorem splays_any (l : List ByteArray) (v : Value) (a n : Int) (ha : u64 a) (n0 : -9223372036854775808 ≤ n) (n1 : n ≤ 9223372036854775807) (w : World) (hv : Rd w v (vS l)) (ht : Tab w) :
    Calls Tryd.prog 16 #[v, .int .u64 a, .int .i64 n] w fun e w' => ∃ v', e = .returned (.tuple #[v', .int .i64 (spE l n)]) ∧ Rd w' v' (vI .i64 (spL a n l)) ∧ G w w' := by
  by_cases hc : chkH l = 0
  · by_cases hn : 0 ≤ n ∧ n ≤ 68719476736
    · have HE : spE l n = 0 := by unfold spE; rw [if_pos hc, if_pos hn]
      have HL : spL a n l = plL a (max n 1) l := by unfold spL; rw [if_pos HE]
      rw [HE, HL]
      exact splays_at n (max n 1) (by omega) hn.2 l v a ha w hv ht (chk_okS hc) hc
    · have HE : Hid (spE l n = 2) := Lib.hid (by unfold spE; rw [if_pos hc, if_neg hn])
      have HL : Hid (spL a n l = []) := Lib.hid (by unfold spL; rw [if_neg (by rw [HE.out]; decide)])
      have HC := Lib.hid hc
      have hn2 : n < 0 ∨ 68719476736 < n := by omega
      rw [HE.out, HL.out]
      clear HE HL hc hn
      have HV := Lib.hid hv
      obtain ⟨A, c, rfl, hcc, hcm, hr⟩ := hv
      rw [vS_len] at *
      clear hr
      rcases hn2 with hn | hn
      all_goals (
        go_enter Tryd.func16, Tryd.ntmps16
        go_wp2_with fail
        go_at_call 30
        refine (hcheck_any l _ _ HV.out).mono ?_
        rintro e w1 ⟨rfl, g1⟩
        rw [HC.out]
        go_wp2_with fail
        go_ret2
        exact ⟨_, rfl, Rd.nil _, (by repeat (first | exact G.refl _ | refine G.alloc ?_ _ | refine G.drewN ?_ _ | refine G.drew ?_ | refine G.trans ?_ (by assumption)))⟩)
  · have HE : spE l n = chkH l := by unfold spE; rw [if_neg hc]
    have HL : spL a n l = [] := by unfold spL; rw [if_neg (by rw [HE]; exact hc)]
    rw [HE, HL]
    have hb := chkH_bd l
    refine (splays_err l v a n w hv (by omega)).mono ?_
    rintro e w1 ⟨rfl, g1⟩
    exact ⟨_, rfl, Rd.nil _, g1⟩
set_option maxHeartbeats 1000000 in
theorem splay_any (s : ByteArray) (a n : Int) (ha : u64 a) (n0 : -9223372036854775808 ≤ n) (n1 : n ≤ 9223372036854775807) (hs : s.size < 9223372036854775807) (w : World) (ht : Tab w) :
    Calls Tryd.prog 14 #[.string s, .int .u64 a, .int .i64 n] w fun e w' => e = .returned (.tuple #[.int .i64 (spV a n s), .int .i64 (spE [s] n)]) ∧ G w w' := by
  have HO : Hid (okS [s]) := Lib.hid (by
    intro j
    match j with
    | 0 => exact hs
    | j + 1 => simp)
  have HT : Hid (Tab (w.alloc (.cells #[.string s] 9))) := Lib.hid (ht.g ((G.refl w).alloc _))
  clear ht
  by_cases hE : spE [s] n = 0
  · have HE := Lib.hid hE
    have HL : Hid (spL a n [s] = [spV a n s]) := Lib.hid (by unfold spL spV; rw [if_pos hE, if_pos hE]; rfl)
    rw [hE]
    clear hE
    generalize spV a n s = x at *
    go_enter Tryd.func14, Tryd.ntmps14
    go_wp2_with fail
    go_at_call 16
    refine (splays_any [s] _ a n ha n0 n1 _ (Rd.blk (Blk.new w _ #[.string s]) (by simp)) HT.out).mono ?_
    rintro e w1 ⟨v1, rfl, hr, g1⟩
    rw [HE.out]
    rw [HL.out] at hr
    obtain ⟨A1, c1, rfl, hc1, hm1, hr1⟩ := hr
    obtain ⟨b1, o1, rfl, hd1⟩ := hr1 (by simp [vI])
    have d1 : w1.cell? ⟨b1, o1, none⟩ = some (.int .i64 x) := hd1 0 _ rfl
    rw [show (vI .i64 [x]).length = 1 from rfl] at *
    clear hd1
    go_wp2_with fail
    go_ret2
    exact ⟨rfl, (by repeat (first | exact G.refl _ | refine G.alloc ?_ _ | refine G.drewN ?_ _ | refine G.drew ?_ | refine G.trans ?_ (by assumption)))⟩
  · have HL : Hid (spV a n s = 0) := Lib.hid (by unfold spV; rw [if_neg hE])
    rw [HL.out]
    obtain ⟨q, hq⟩ : ∃ q, spE [s] n = q := ⟨_, rfl⟩
    have HQ := Lib.hid hq
    have hcq := spE_bd [s] n
    rw [hq] at hE hcq ⊢
    have h0 : (q == 0) = false := by simpa using hE
    have h1 : (q != 0) = true := by simpa using hE
    clear hE hq hcq HL
    go_enter Tryd.func14, Tryd.ntmps14
    go_wp2_with fail
    go_at_call 16
    refine (splays_any [s] _ a n ha n0 n1 _ (Rd.blk (Blk.new w _ #[.string s]) (by simp)) HT.out).mono ?_
    rintro e w1 ⟨v1, rfl, hr, g1⟩
    rw [HQ.out]
    clear hr
    go_wp2_with fail
    go_ret2
    exact ⟨rfl, (by repeat (first | exact G.refl _ | refine G.alloc ?_ _ | refine G.drewN ?_ _ | refine G.drew ?_ | refine G.trans ?_ (by assumption)))⟩
end Go.Proofs.YtodijghpeikmoaaDoor
