/-
  Retries: the examples of the chapter; slices.Clone.
-/
import Derived.Test.YtanipfenioaigaaDoorRtG
set_option linter.unusedVariables false
set_option linter.unusedSimpArgs false
namespace Go.Proofs.YtanipfenioaigaaDoor
open Go.RowKit Go.Shelf

def jobS : ByteArray := ⟨#[106, 111, 98]⟩
theorem ex2 : nxB 3 10 25 0 ⟨#[106, 111, 98]⟩ 0 3 100 = true := by decide +kernel
theorem ex3 : nxE 3 10 25 0 ⟨#[106, 111, 98]⟩ 0 3 100 = 0 := by decide +kernel
theorem ex5 : nxB 3 10 25 0 ⟨#[106, 111, 98]⟩ 0 4 100 = false := by decide +kernel
theorem ex6 : nxE 3 10 25 0 ⟨#[106, 111, 98]⟩ 0 4 100 = 0 := by decide +kernel
theorem ex7 : chE 3 10 25 0 ⟨#[106, 111, 98]⟩ 0 100 [5, 0] = 0 := by decide +kernel
theorem aft0 (M B C a : Int) (s : ByteArray) (d k : Int) : aft M B C 0 a s d k = waitI M B C 0 k := by
  unfold aft jwV jw
  simp
theorem ex8 (a : Int) : chL 3 10 25 0 a ⟨#[106, 111, 98]⟩ 0 100 [5, 0] = [100, 115, 135] := by
  unfold chL
  rw [if_pos ex7]
  simp only [List.length_cons, List.length_nil, List.range_succ, List.range_zero, List.map_append, List.map_cons, List.map_nil, List.nil_append, List.cons_append, tAt, aft0]
  decide +kernel
theorem ex1 (a : Int) : nxV 3 10 25 0 a ⟨#[106, 111, 98]⟩ 0 3 100 = 125 := by
  unfold nxV
  rw [if_pos ex2, aft0]
  decide +kernel
theorem ex9 : ltV 3 10 25 0 100 5 2 = 183 := by decide +kernel
theorem ex10 : ltE 3 10 25 0 100 5 2 = 0 := by decide +kernel
theorem ex11 : erV 3 10 25 0 2 100 = 120 := by decide +kernel
theorem ex12 : erE 3 10 25 0 2 100 = 0 := by decide +kernel
theorem ex13 : alB 3 10 25 0 2 100 120 = true := by decide +kernel
theorem ex14 : lfV 3 10 25 0 1 = 3 := by decide +kernel
theorem ex15 : lfE 3 10 25 0 1 = 0 := by decide +kernel
theorem u7 : u64 7 := ⟨by decide, by decide⟩
set_option maxHeartbeats 400000 in
theorem plain_any (w : World) :
    Calls Tryd.prog 30 #[] w fun e w' => e = .returned (.agg #[.int .i64 3, .int .i64 10, .int .i64 25, .int .i64 0]) ∧ G w w' := by
  go_enter Tryd.func30, Tryd.ntmps30
  go_wp2_with fail
  refine bodyPost_ret (v := .agg #[.int .i64 3, .int .i64 10, .int .i64 25, .int .i64 0]) (by simp [results, Tryd.results30, go_sem]) rfl ⟨rfl, (by repeat (first | exact G.refl _ | refine G.alloc ?_ _ | refine G.drewN ?_ _ | refine G.drew ?_ | refine G.trans ?_ (by assumption)))⟩
set_option maxRecDepth 4000 in
set_option maxHeartbeats 4000000 in
theorem works_any (w : World) (ht : Tab w) :
    Calls Tryd.prog 12 #[] w fun e w' => e = .returned (.bool true) ∧ G w w' := by
  have HT := Lib.hid ht
  clear ht
  obtain ⟨z, hz⟩ : ∃ z, nxV 3 10 25 0 7 ⟨#[106, 111, 98]⟩ 0 4 100 = z := ⟨_, rfl⟩
  have HZ := Lib.hid hz
  clear hz
  go_enter Tryd.func12, Tryd.ntmps12
  go_wp2_with fail
  go_at_call 30
  refine (plain_any _).mono ?_
  rintro e w0 ⟨rfl, gA⟩
  go_wp2_with fail
  go_at_call 17
  refine (next_any 3 10 25 0 7 _ 0 3 100 u7 (by decide) (by decide) _ (HT.out.g gA)).mono ?_
  rintro e w1 ⟨rfl, gx⟩
  replace gA := gA.trans gx
  clear gx
  rw [ex1, ex2, ex3]
  go_wp2_with fail
  go_at_call 30
  refine (plain_any _).mono ?_
  rintro e w0 ⟨rfl, gx⟩
  replace gA := gA.trans gx
  clear gx
  go_wp2_with fail
  go_at_call 17
  refine (next_any 3 10 25 0 7 _ 0 4 100 u7 (by decide) (by decide) _ (HT.out.g gA)).mono ?_
  rintro e w2 ⟨rfl, gx⟩
  rw [HZ.out, ex5, ex6]
  replace gA := gA.trans gx
  clear gx
  go_wp2_with fail
  go_at_call 30
  refine (plain_any _).mono ?_
  rintro e w0 ⟨rfl, gx⟩
  replace gA := gA.trans gx
  clear gx
  go_wp2_with fail
  have rb : Rd (w0.alloc (.cells #[.int .i64 5, .int .i64 0] 2)) (.slice (some ⟨w0.heap.size, 0, none⟩) 2 2) (vI .i64 [5, 0]) := Rd.blk (Blk.new w0 2 #[.int .i64 5, .int .i64 0]) (by simp)
  go_at_call 14
  refine (chain_any 3 10 25 0 7 _ 0 100 _ [5, 0] u7 (by decide) _ rb (HT.out.g (gA.alloc _))).mono ?_
  rintro e w3 ⟨vL, rfl, rL, gx⟩
  rw [ex7]
  rw [ex8] at rL
  replace gA := (gA.alloc _).trans gx
  clear gx rb
  go_wp2_with fail
  go_at_call 30
  refine (plain_any _).mono ?_
  rintro e w0 ⟨rfl, gx⟩
  replace gA := gA.trans gx
  replace rL := rL.g gx
  clear gx
  go_wp2_with fail
  go_at_call 19
  refine (latest_any 3 10 25 0 100 5 2 _).mono ?_
  rintro e w4 ⟨rfl, gx⟩
  rw [ex9, ex10]
  replace gA := gA.trans gx
  replace rL := rL.g gx
  clear gx
  go_wp2_with fail
  go_at_call 30
  refine (plain_any _).mono ?_
  rintro e w0 ⟨rfl, gx⟩
  replace gA := gA.trans gx
  replace rL := rL.g gx
  clear gx
  go_wp2_with fail
  go_at_call 21
  refine (earliest_any 3 10 25 0 2 100 _).mono ?_
  rintro e w5 ⟨rfl, gx⟩
  rw [ex11, ex12]
  replace gA := gA.trans gx
  replace rL := rL.g gx
  clear gx
  go_wp2_with fail
  go_at_call 30
  refine (plain_any _).mono ?_
  rintro e w0 ⟨rfl, gx⟩
  replace gA := gA.trans gx
  replace rL := rL.g gx
  clear gx
  go_wp2_with fail
  go_at_call 23
  refine (allowed_any 3 10 25 0 2 100 120 (by decide) (by decide) _).mono ?_
  rintro e w6 ⟨rfl, gx⟩
  rw [ex12, ex13]
  replace gA := gA.trans gx
  replace rL := rL.g gx
  clear gx
  go_wp2_with fail
  go_at_call 30
  refine (plain_any _).mono ?_
  rintro e w0 ⟨rfl, gx⟩
  replace gA := gA.trans gx
  replace rL := rL.g gx
  clear gx
  go_wp2_with fail
  go_at_call 25
  refine (left_any 3 10 25 0 1 _).mono ?_
  rintro e w7 ⟨rfl, gx⟩
  rw [ex14, ex15]
  replace gA := gA.trans gx
  replace rL := rL.g gx
  clear gx
  go_wp2_with fail
  have rb := Rd.blk (Blk.new w7 2 #[.int .i64 100, .int .i64 115, .int .i64 135]) (by simp)
  go_at_call 16
  refine (equal_i64 [100, 115, 135] _ _ _ (rL.g ((G.refl w7).alloc _)) rb).mono ?_
  rintro e w8 ⟨rfl, gx⟩
  replace gA := (gA.alloc _).trans gx
  clear gx rb rL
  go_wp2_with fail
  go_ret
  exact ⟨rfl, gA⟩
theorem own_zero {w : World} {k base : Nat} {t : TypeId} (h : Blk w k t #[]) (hb : base ≤ k) : w.ownsRow base t 1 (.slice (some ⟨k, 0, none⟩) 0 0) 0 [] :=
  ⟨rfl, .inr ⟨k, 0, #[], rfl, hb, h, by omega, by decide, rfl, rfl⟩⟩
set_option maxRecDepth 20000 in
set_option maxHeartbeats 2000000 in
theorem clone_any (l : List Int) (v : Value) (w : World) (hR : Rd w v (vI .i64 l)) (hl : l.length ≤ 1000) :
    Calls Tryd.prog 13 #[v] w fun e w' => ∃ v', e = .returned v' ∧ Rd w' v' (vI .i64 l) ∧ G w w' := by
  obtain ⟨A, c, rfl, hc, hcm, hd⟩ := hR
  rw [vI_len] at hc hd ⊢
  obtain ⟨i0, hi, hz0, hz1, hz2⟩ := info_parts info_i64r
  cases A with
  | none =>
    obtain rfl : l = [] := by
      cases l with
      | nil => rfl
      | cons x l =>
        obtain ⟨b, o, e, -⟩ := hd (by simp)
        cases e
    clear hd
    have he : ∀ w : World, (binOp .eql 27 (.slice none 0 c) (.slice none 0 0)).run Tryd.prog w = .ok (.bool true) w := fun _ => by kernel_rfl
    go_enter Tryd.func13, Tryd.ntmps13
    go_wp2_with fail
    go_ret
    exact ⟨_, rfl, Rd.nil _, (by repeat (first | exact G.refl _ | refine G.alloc ?_ _ | refine G.drewN ?_ _ | refine G.drew ?_ | refine G.trans ?_ (by assumption)))⟩
  | some ad =>
    obtain ⟨m, hm⟩ : ∃ m, l.length = m := ⟨_, rfl⟩
    have hlen : (vI .i64 l).length = m * 1 := by rw [vI_len, hm, Nat.mul_one]
    have hcell : ∀ j u, (vI .i64 l)[j]? = some u → w.cell? (ad.add j) = some u := fun j u hu => by
      have hj : j < (vI .i64 l).length := by
        rcases Nat.lt_or_ge j (vI .i64 l).length with h | h
        · exact h
        · rw [List.getElem?_eq_none h] at hu; cases hu
      rw [vI_len] at hj
      obtain ⟨b, o, e, hc⟩ := hd (by omega)
      cases e
      rw [Go.WideShapes.add_plain]
      exact hc j u hu
    have hone : ∀ u ∈ vI .i64 l, u.oneCell' = true := fun u hu => by
      unfold vI at hu
      rw [List.mem_map] at hu
      obtain ⟨x, -, rfl⟩ := hu
      rfl
    rw [hm] at hc hl ⊢
    have HC := Lib.hid hcell
    have HL := Lib.hid hlen
    clear hd hcell hlen
    obtain ⟨L, hL⟩ : ∃ L, vI .i64 l = L := ⟨_, rfl⟩
    rw [hL] at HC HL hone ⊢
    clear hL hm
    have he : ∀ w : World, (binOp .eql 27 (.slice (some ad) m c) (.slice none 0 0)).run Tryd.prog w = .ok (.bool false) w := fun _ => by kernel_rfl
    go_enter Tryd.func13, Tryd.ntmps13
    have hB := Blk.new w 2 #[]
    have gB : G w (w.alloc (.cells #[] 2)) := (G.refl w).alloc _
    have HO := Lib.hid (own_zero hB (Nat.le_refl _))
    have HC2 : Hid (∀ j u, L[j]? = some u → (w.alloc (.cells #[] 2)).cell? (ad.add j) = some u) := Lib.hid (fun j u hu => by
      have h := HC.out j u hu
      have hb := World.block_lt_of_cell? w _ h
      rw [World.cell?_alloc_lt _ _ _ hb]
      exact h)
    go_wp2_with (at_builtin; refine wpList_append_own _ rfl _ _ 27 rfl w.heap.size 2 i0 (.int .i64 0) 1 8 Tryd.underlying27 hi hz0 hz1 hz2 rfl (by decide) _ _ _ rfl HO.out ad m c L rfl HL.out HC2.out hone (by unfold maxLen; omega) (by omega) (by simp) ?_; intro v' w3 hown' hgrow _)
    go_ret
    refine ⟨_, rfl, ?_, gB.grown hgrow (fun r e => (HO.out.lt r e).1)⟩
    have := Rd.of_own hown'
    simpa using this
end Go.Proofs.YtanipfenioaigaaDoor
