/-
  Package hash: Buckets.
-/
import Derived.Test.YtodijghpeikmoaaDoorHsW
set_option linter.unusedVariables false
set_option linter.unusedSimpArgs false
namespace Go.Proofs.YtodijghpeikmoaaDoor
open Go.RowKit Go.Shelf
attribute [local go_sem] Oper.semAt_some

theorem ownFrom_blk {β : Type} (n k : Nat) (t : TypeId) (f : β → Array Value) : OwnFrom n (fun (s : β) W => Blk W k t (f s)) :=
  fun s W W' row hs hg hr => Blk.grown hs hg (fun e => by
    obtain ⟨_, o, ho, hc⟩ := hr k e.symm
    rw [show W.heap[k]? = _ from hs] at ho
    cases ho; cases hc)
theorem ownFrom_g {β : Type} {n : Nat} {w : World} (hn : w.heap.size ≤ n) : OwnFrom n (fun (_ : β) W => G w W) := ownFrom_below (Nat.le_refl _) hn
theorem ownFrom_pure {β : Type} (n : Nat) (p : β → Prop) : OwnFrom n (fun (s : β) (_ : World) => p s) := fun _ _ _ _ hs _ _ => hs
theorem Blk.not_row {W : World} {k : Nat} {t e : TypeId} {cs : Array Value} (h : Blk W k t cs) (hte : t ≠ e) {base size n : Nat} {v : Value} {xs : List Value} (hr : W.ownsRow base e size v n xs) : some k ≠ v.ownBlock := by
  rcases hr.2 with ⟨rfl, _⟩ | ⟨g, cap, cur, rfl, _, hgb, _⟩
  · simp [Value.ownBlock]
  · intro h2
    obtain rfl : k = g := by simpa [Value.ownBlock] using h2
    rw [show W.heap[k]? = _ from h] at hgb
    cases hgb
    exact hte rfl
theorem Blk.new1 (w : World) (o : Obj) (t : TypeId) (cs : Array Value) : Blk ((w.alloc o).alloc (.cells cs t)) (w.heap.size + 1) t cs := by
  have := Blk.new (w.alloc o) t cs
  rwa [World.size_alloc] at this
theorem Blk.new2 (w : World) (o o2 : Obj) (t : TypeId) (cs : Array Value) : Blk (((w.alloc o).alloc o2).alloc (.cells cs t)) (w.heap.size + 1 + 1) t cs := by
  have := Blk.new1 (w.alloc o) o2 t cs
  rwa [World.size_alloc] at this
theorem Blk.new3 (w : World) (o o2 o3 : Obj) (t : TypeId) (cs : Array Value) : Blk ((((w.alloc o).alloc o2).alloc o3).alloc (.cells cs t)) (w.heap.size + 1 + 1 + 1) t cs := by
  have := Blk.new2 (w.alloc o) o2 o3 t cs
  rwa [World.size_alloc] at this
theorem Blk.int_eq {w : World} {k : Nat} {t : TypeId} {q : IntKind} {a b : Int} (h : Blk w k t #[.int q a]) (e : b = a) : Blk w k t #[.int q b] := e ▸ h
theorem ownsRow_g {a b : World} {base : Nat} {e : TypeId} {size : Nat} {v : Value} {k : Nat} {xs : List Value} (h : a.ownsRow base e size v k xs) (g : G a b) : b.ownsRow base e size v k xs := by
  obtain ⟨hl, hv⟩ := h
  refine ⟨hl, ?_⟩
  rcases hv with hv | ⟨r, cap, cur, hv, hb, hg, hr⟩
  · exact .inl hv
  · exact .inr ⟨r, cap, cur, hv, hb, Blk.g (show Blk a r e cur from hg) g, hr⟩
theorem ownsRow_base {a : World} {base base' : Nat} {e : TypeId} {size : Nat} {v : Value} {k : Nat} {xs : List Value} (h : a.ownsRow base e size v k xs) (hb : base' ≤ base) : a.ownsRow base' e size v k xs := by
  obtain ⟨hl, hv⟩ := h
  refine ⟨hl, ?_⟩
  rcases hv with hv | ⟨r, cap, cur, hv, hb2, hg, hr⟩
  · exact .inl hv
  · exact .inr ⟨r, cap, cur, hv, Nat.le_trans hb hb2, hg, hr⟩
/-- at a caller's return the block for the rounds' deferred calls is turned once more -/
theorem G.put {w W : World} (h : G w W) {D : Nat} {o : Obj} (o' : Obj) (hD : w.heap.size ≤ D) (hK : W.heap[D]? = some o) : G w (W.putObj D o') :=
  Below.grown h (grownBy_putObj' W D o') h.size (fun r e => by cases e; exact hD)
theorem Blk.put {W : World} {k : Nat} {t : TypeId} {cs : Array Value} (h : Blk W k t cs) {D : Nat} {o : Obj} (o' : Obj) (hK : W.heap[D]? = some o) (hc : o.isCells = false) : Blk (W.putObj D o') k t cs :=
  Blk.grown h (grownBy_putObj' W D o') (fun e => by cases e; rw [show W.heap[k]? = _ from h] at hK; cases hK; cases hc)
theorem madeCells_one (z : Value) (n : Nat) : madeCells #[z] (n * 1) = Array.replicate n z := by
  apply Array.ext'
  rw [Nat.mul_one, toList_madeCells_one]; simp
theorem vI_rep (n : Nat) : Array.replicate n (Value.int .i64 0) = (vI .i64 (List.replicate n 0)).toArray := by
  apply Array.ext'
  simp [vI]
theorem make_ints (n : Nat) (hn : n ≤ 281474976710656 / 8) (W : World) :
    (Instr.makeSlice 32 (.int .i64 (n : Int)) (.int .i64 (n : Int))).run Tryd.prog W = .ok (.slice (some ⟨W.heap.size, 0, none⟩) n n) (W.alloc (.cells (vI .i64 (List.replicate n 0)).toArray 3)) := by
  have hi : (Tryd.prog.info? 3).map (fun i => (i.zero, i.size, i.bytes)) = some (some (.int .i64 0), 1, 8) := by kernel_rfl
  obtain ⟨i0, hi, hz0, hz1, hz2⟩ := info_parts hi
  have h := run_make (P := Tryd.prog) W 32 3 i0 (.int .i64 0) Tryd.underlying32 hi hz0 .i64 .i64 n n (by omega) (Int.le_refl _) (by rw [hz2]; omega) (by omega)
  simp only [Int.toNat_natCast] at h
  rw [h, hz1, show (Value.int IntKind.i64 0).cells = #[Value.int .i64 0] from rfl, madeCells_one, vI_rep]
theorem vI_set (k : IntKind) (l : List Int) (i : Nat) (x : Int) : (vI k l).toArray.setIfInBounds i (.int k x) = (vI k (l.set i x)).toArray := by
  simp [vI, List.map_set]
def bump (c : List Int) (p : Int) : List Int := c.set p.toNat (at_ c p.toNat + 1)
def cntL (a : Int) (n : Nat) (pre : List ByteArray) : List Int := pre.foldl (fun c s => bump c (placeI a n s)) (List.replicate n 0)
theorem cntL_snoc (a : Int) (n : Nat) (pre : List ByteArray) (x : ByteArray) : cntL a n (pre ++ [x]) = bump (cntL a n pre) (placeI a n x) := by unfold cntL; rw [List.foldl_append]; rfl
theorem cnt_fold_len (a : Int) (n : Nat) (pre : List ByteArray) (c : List Int) : (pre.foldl (fun c s => bump c (placeI a n s)) c).length = c.length := by
  induction pre generalizing c with
  | nil => rfl
  | cons x pre ih => rw [List.foldl_cons, ih]; unfold bump; rw [List.length_set]
theorem cntL_len (a : Int) (n : Nat) (pre : List ByteArray) : (cntL a n pre).length = n := by unfold cntL; rw [cnt_fold_len, List.length_replicate]
theorem at_set (c : List Int) (i j : Nat) (x : Int) : at_ (c.set i x) j = if i = j ∧ i < c.length then x else at_ c j := by
  unfold at_
  rw [List.getElem?_set]
  by_cases e : i = j
  · subst e
    by_cases h : i < c.length
    · simp [h]
    · simp [h, List.getElem?_eq_none (by omega : c.length ≤ i)]
  · simp [e]
theorem cnt_fold_bd (a : Int) (n : Nat) (pre : List ByteArray) (c : List Int) (j : Nat) : at_ c j ≤ at_ (pre.foldl (fun c s => bump c (placeI a n s)) c) j ∧ at_ (pre.foldl (fun c s => bump c (placeI a n s)) c) j ≤ at_ c j + pre.length := by
  induction pre generalizing c with
  | nil => simp
  | cons x pre ih =>
    rw [List.foldl_cons]
    have h := ih (bump c (placeI a n x))
    have h2 : at_ c j ≤ at_ (bump c (placeI a n x)) j ∧ at_ (bump c (placeI a n x)) j ≤ at_ c j + 1 := by
      unfold bump; rw [at_set]; split
      · rename_i h3; rw [h3.1]; omega
      · omega
    rw [List.length_cons]
    omega
theorem cntL_bd (a : Int) (n : Nat) (pre : List ByteArray) (j : Nat) : 0 ≤ at_ (cntL a n pre) j ∧ at_ (cntL a n pre) j ≤ pre.length := by
  have h := cnt_fold_bd a n pre (List.replicate n 0) j
  have h0 : at_ (List.replicate n (0 : Int)) j = 0 := by unfold at_; rw [List.getElem?_replicate]; split <;> rfl
  rw [h0] at h
  unfold cntL
  omega
def bkE (l : List ByteArray) (n : Int) : Int := if chkH l = 0 then (if 1 ≤ n ∧ n ≤ 64 then 0 else 2) else chkH l
def bkL (l : List ByteArray) (a n : Int) : List Int := if bkE l n = 0 then cntL a n.toNat l else []
theorem chkH_ok {l : List ByteArray} (h : chkH l = 0) : l.length ≤ 64 := by
  unfold chkH at h
  by_cases hb : 64 < l.length
  · rw [if_pos hb] at h; omega
  · omega
theorem chkH_bd (l : List ByteArray) : chkH l = 0 ∨ chkH l = 12 ∨ chkH l = 15 := by
  unfold chkH; split
  · exact .inr (.inl rfl)
  · split
    · exact .inl rfl
    · exact .inr (.inr rfl)
theorem keepP_t {b0 b1 b2 : Nat} {A : Option Addr} {c : Nat} {a n : Int} {l : List ByteArray} {x y z : World} (h : KeepP b0 b1 b2 A c a n l x y) (k : KeepP b0 b1 b2 A c a n l y z) : KeepP b0 b1 b2 A c a n l x z := fun r => k (h r)
theorem keepP_b {b0 b1 b2 : Nat} {A : Option Addr} {c : Nat} {a n : Int} {l : List ByteArray} {w : World} (W : World) (lq : Nat) (o o' : Obj) (_ : w.heap.size ≤ lq) (ho : W.heap[lq]? = some o) (hc : o.isCells = false) (_ : o.isWalk = false) : KeepP b0 b1 b2 A c a n l W (W.putObj lq o') := by
  intro r
  have far : ∀ {k : Nat} {ad : Addr} {v : Value}, W.cell? ad = some v → ad.block = k → some k ≠ some lq := by
    intro k ad v hv he e
    cases e
    subst he
    unfold World.cell? at hv
    rw [ho] at hv
    cases o <;> simp_all [Obj.isCells]
  refine r.grown (grownBy_putObj' W lq o') (far (r.x0.cell 0) rfl) (far (r.x1.cell 0) rfl) (far (r.x2.cell 0) rfl) ?_ (far r.tb.2.1 rfl)
  intro k o2 hz e
  obtain ⟨b, o3, e2, d⟩ := r.rd 0 hz
  rw [e] at e2
  cases e2
  exact far d rfl
theorem keepP_g {b0 b1 b2 : Nat} {A : Option Addr} {c : Nat} {a n : Int} {l : List ByteArray} {W W' : World} (g : G W W') : KeepP b0 b1 b2 A c a n l W W' := fun r => r.g g
set_option maxRecDepth 100000 in
set_option maxHeartbeats 2000000 in
theorem buckets_ok (l : List ByteArray) (v : Value) (a : Int) (n : Nat) (ha : u64 a) (w : World) (hv : Rd w v (vS l)) (ht : Tab w) (hok : okS l) (hc : chkH l = 0) (n0 : 0 < n) (n1 : n ≤ 64) :
    Calls Tryd.prog 18 #[v, .int .u64 a, .int .i64 n] w fun e w' => ∃ v', e = .returned (.tuple #[v', .int .i64 0]) ∧ Rd w' v' (vI .i64 (cntL a n l)) ∧ G w w' := by
  have hll := chkH_ok hc
  have HV := Lib.hid hv
  obtain ⟨A, c, rfl, hcc, hcm, hr⟩ := hv
  rw [vS_len] at *
  have HR : Hid (∀ k, k < l.length → ∃ b o, A = some ⟨b, o, none⟩ ∧ w.cell? ⟨b, o + k, none⟩ = some (.string (l[k]?.getD ByteArray.empty))) := Lib.hid (fun k hk => by
      obtain ⟨b, o, e, h⟩ := hr (by omega)
      exact ⟨b, o, e, h k _ (vS_get hk)⟩)
  have HC := Lib.hid hc
  have HT := Lib.hid ht
  have HO := Lib.hid hok
  have hmk := fun W => make_ints n (by omega) W
  have hn1 : (1 : Int) ≤ n := by omega
  have hn2 : (n : Int) ≤ 64 := by omega
  have hwn : IntKind.u64.wrap (n : Int) = n := by rw [IntKind.wrap_u64]; omega
  clear hr hc ht hok
  refine (callsIn_wide (n := 9)).1 (callsIn_of_wp_marks Tryd.func18 rfl trivial ?_ rfl)
  simp only [Tryd.ntmps18, List.size_toArray, List.length_cons, List.length_nil, Nat.reduceAdd, Nat.reduceSub, Array.replicate_succ, Array.replicate_zero, List.push_toArray, List.append_toArray, List.nil_append, List.cons_append]
  refine wpIn_wide.2 ?_
  go_wp2_with fail
  go_at_call 30
  refine (hcheck_any l _ _ HV.out).mono ?_
  rintro e w1 ⟨rfl, g1⟩
  rw [HC.out]
  go_wp2_with fail
  go_at_call 31
  refine (places_any A l.length c a n _).mono ?_
  rintro e w2 ⟨rfl, rfl⟩
  go_wp2_with fail
  refine (wpIn_wide (n := 9)).1 ?_
  have hO : Blk ((w1.alloc (.cells (vI .i64 (List.replicate n 0)).toArray 3)).alloc (.cells #[.slice (some ⟨w1.heap.size, 0, none⟩) n n] 32)) w1.heap.size 3 (vI .i64 (cntL a n [])).toArray := (Blk.new w1 _ _).alloc _
  have hS : Blk ((w1.alloc (.cells (vI .i64 (List.replicate n 0)).toArray 3)).alloc (.cells #[.slice (some ⟨w1.heap.size, 0, none⟩) n n] 32)) (w1.heap.size + 1) 32 #[.slice (some ⟨w1.heap.size, 0, none⟩) n n] := Blk.new1 w1 _ _ _
  have gW2 : G w ((w1.alloc (.cells (vI .i64 (List.replicate n 0)).toArray 3)).alloc (.cells #[.slice (some ⟨w1.heap.size, 0, none⟩) n n] 32)) := (g1.alloc _).alloc _
  have hsz : w.heap.size ≤ w1.heap.size := g1.size
  have hz2 : (((w1.alloc (.cells (vI .i64 (List.replicate n 0)).toArray 3)).alloc (.cells #[.slice (some ⟨w1.heap.size, 0, none⟩) n n] 32))).heap.size = w1.heap.size + 1 + 1 := by simp [World.size_alloc]
  generalize ((w1.alloc (.cells (vI .i64 (List.replicate n 0)).toArray 3)).alloc (.cells #[.slice (some ⟨w1.heap.size, 0, none⟩) n n] 32)) = w2 at *
  generalize w1.heap.size = kO at *
  have hPl : PlAt (((w2.alloc (.cells #[.slice A l.length c] 22)).alloc (.cells #[.int .u64 a] 23)).alloc (.cells #[.int .u64 n] 23)) w2.heap.size (w2.heap.size + 1) (w2.heap.size + 1 + 1) A c a n l :=
    ⟨((Blk.new w2 _ _).alloc _).alloc _, (Blk.new1 w2 _ _ _).alloc _, Blk.new2 w2 _ _ _ _, fun k hk => by
      obtain ⟨b, o, e, d⟩ := HR.out k hk
      exact ⟨b, o, e, (((gW2.alloc _).alloc _).alloc _).cell (World.block_lt_of_cell? w _ d) d⟩, HT.out.g (((gW2.alloc _).alloc _).alloc _)⟩
  have hO3 := ((hO.alloc (.cells #[.slice A l.length c] 22)).alloc (.cells #[.int .u64 a] 23)).alloc (.cells #[.int .u64 n] 23)
  have hS3 := ((hS.alloc (.cells #[.slice A l.length c] 22)).alloc (.cells #[.int .u64 a] 23)).alloc (.cells #[.int .u64 n] 23)
  have gW3 := ((gW2.alloc (.cells #[.slice A l.length c] 22)).alloc (.cells #[.int .u64 a] 23)).alloc (.cells #[.int .u64 n] 23)
  clear hO hS gW2 g1 HV
  generalize ((w2.alloc (.cells #[.slice A l.length c] 22)).alloc (.cells #[.int .u64 a] 23)).alloc (.cells #[.int .u64 n] 23) = w3 at *
  rw [hz2] at *
  clear hz2 w2
  generalize hkS : kO + 1 = kS at *
  generalize hkA : kS + 1 = kA at *
  generalize hkB : kA + 1 = kB at *
  generalize hkC : kB + 1 = kC at *
  have HN : Hid (kO ≠ kS ∧ kO ≠ kA ∧ kO ≠ kB ∧ kO ≠ kC ∧ w.heap.size ≤ kO) := Lib.hid (by omega)
  clear hkS hkA hkB hkC
  have hst := places_stops 8 (by omega) kA kB kC A c a n l HO.out (by omega) (by omega) hll hcc hcm ha w3 hPl
  refine wpIn_rangeFunc_ownF rfl (by omega) (gf := 40) (lb := #[.pointer (some ⟨kA, 0, none⟩), .pointer (some ⟨kB, 0, none⟩), .pointer (some ⟨kC, 0, none⟩)]) rfl trivial (enters_of Tryd.func40 (by kernel_rfl) rfl)
    hst keepP_t keepP_b (Below.refl _ _) (fun _ => rfl)
    (fun pre W => Blk W kO 3 (vI .i64 (cntL a n pre)).toArray ∧ Blk W (kS) 32 #[.slice (some ⟨kO, 0, none⟩) n n] ∧ G w W) (fun _ _ _ => False)
    (OwnFrom.and (ownFrom_blk _ kO 3 (fun pre => (vI .i64 (cntL a n pre)).toArray)) (OwnFrom.and (ownFrom_blk _ (kS) 32 (fun _ => #[.slice (some ⟨kO, 0, none⟩) n n])) (ownFrom_g gW3.size)))
    (fun _ _ _ _ _ hs _ _ => hs) ⟨hO3, hS3, gW3⟩ ?a1 ?assign ?body ?done ?stop
  case assign =>
    intro lq x W K hK
    dsimp only [encP]
    gi_wp2
    exact hK
  case body =>
    rintro lq pre x W ⟨hO, hS, hg⟩ hlt2
    have hp := placeI_bd a n x (by omega)
    obtain ⟨p, hpp⟩ : ∃ p : Nat, placeI a n x = p := ⟨(placeI a n x).toNat, by omega⟩
    have HS := Lib.hid (cntL_snoc a n pre x)
    have hb1 := cntL_bd a n pre p
    have hlen := cntL_len a n pre
    have hpl : pre.length ≤ 64 := by omega
    rw [hpp] at hp HS
    have hpn : p < n := by omega
    have d0 : W.cell? ⟨kO, p, none⟩ = some (.int .i64 (at_ (cntL a n pre) p)) := by rw [hO.cell p]; have := vI_get (k := .i64) (l := cntL a n pre) (j := p) (by omega); simpa [at_] using this
    have f0 := hO.frozen p
    have c0 : W.cell? ⟨kS, 0, none⟩ = some (.slice (some ⟨kO, 0, none⟩) n n) := hS.cell 0
    rw [hpp]
    have HL := Lib.hid hlen
    clear hpp hlen
    have hpi : (p : Int) < n := by omega
    gi_wp2
    obtain ⟨m0, m1, m2, m3, m4⟩ := HN.out
    refine ⟨KeepsOthers.setCell _ _ _, fun r => ?_, ?_, Blk.far hS (by simpa using Ne.symm m0) _, hg.setCell (p := ⟨kO, p, none⟩) m4 _⟩
    · refine r.grown (grown_setCell (grown_of_G (G.refl _) (some kO)) p _) (by simpa using Ne.symm m1) (by simpa using Ne.symm m2) (by simpa using Ne.symm m3) ?_ ?_
      · intro k o hz e
        obtain ⟨b, o2, e2, d⟩ := HR.out 0 hz
        rw [e] at e2
        cases e2
        have := World.block_lt_of_cell? w _ d
        simp at this ⊢
        omega
      · have := HT.out.1
        simp
        omega
    · rw [HS.out]
      have h2 := hO.set_ p (.int .i64 (at_ (cntL a n pre) p + 1))
      rw [vI_set] at h2
      exact h2
  case done =>
    rintro D xs W hD rfl ⟨hO, hS, hg⟩ hK
    have c0 : W.cell? ⟨kS, 0, none⟩ = some (.slice (some ⟨kO, 0, none⟩) n n) := hS.cell 0
    go_wp2
    refine ⟨by simp, .inl ⟨_, _, rfl, run_takeDeferred hK, ?_⟩⟩
    have h4 : ∀ o', Rd (W.putObj D o') (.slice (some ⟨kO, 0, none⟩) n n) (vI .i64 (cntL a n xs)) := fun o' => by
      have h3 := Rd.ints (hO.put o' hK rfl) (by rw [cntL_len]; omega)
      rw [cntL_len] at h3
      exact h3
    exact ⟨_, results_tmp2 rfl _ _ _, _, rfl, h4 _, hg.put _ (Nat.le_trans gW3.size hD) hK⟩
  case stop =>
    rintro D c pre W _ _ h _
    exact h.elim
end Go.Proofs.YtodijghpeikmoaaDoor
