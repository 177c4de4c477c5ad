/-
  Package retry: the contract of the iterator of the times.
-/
import Derived.Deep.RegionHeld3
import Derived.Deep.MidRow
import Derived.Test.YtanipfenioaigaaDoorRtC
set_option linter.unusedVariables false
set_option linter.unusedSimpArgs false
namespace Go.Proofs.YtanipfenioaigaaDoor
open Go.RowKit Go.Shelf
attribute [local go_sem] Oper.semAt_some

/-- the number in a box -/
def valF (k : Nat) (W : World) : Int := match W.cell? ⟨k, 0, none⟩ with
  | some (.int .i64 x) => x
  | _ => 0
theorem valF_of {k : Nat} {W : World} {x : Int} (h : W.cell? ⟨k, 0, none⟩ = some (.int .i64 x)) : valF k W = x := by unfold valF; rw [h]
theorem valF_cell {k : Nat} {W : World} {x : Int} (h : W.cell? ⟨k, 0, none⟩ = some (.int .i64 x)) : W.cell? ⟨k, 0, none⟩ = some (.int .i64 (valF k W)) := by rw [valF_of h, h]
set_option maxRecDepth 100000 in
set_option maxHeartbeats 4000000 in
theorem times_stops (N : Nat) (hN1 : 1 ≤ N) (n kO kF kR : Nat) (M B C J a : Int) (s : ByteArray) (d : Int) (A : Option Addr) (c : Nat) (l : List Int) (first : Int) (ha : u64 a) (hf : tmB first) (hsp : ∀ x ∈ l, spB x) (hl : l.length ≤ 30) (hc : l.length ≤ c) (hc2 : c ≤ 9223372036854775807) (w : World) (hn : n ≤ w.heap.size) (hb : TmAt n kO kF kR M B C J a s d A c l first w) :
    SeqW Fence.wide N Tryd.prog 51 #[.pointer (some ⟨kR, 0, none⟩), .pointer (some ⟨kF, 0, none⟩), .pointer (some ⟨kO, 0, none⟩)] (encT (tAt M B C J a s d first l)) kF (KeepN n) (fun xs => xs = List.range (l.length + 1)) (l.length + 1) w := fun W hW lq J1 W' hWW hJ hJ2 hY h0 => by
  subst hWW
  have hbW := hb.g hW hn
  have hnW : n ≤ W.heap.size := Nat.le_trans hn hW.size
  refine callsIn_of_wp Tryd.func51 rfl trivial ?_ rfl
  simp only [Tryd.ntmps51, List.size_toArray, List.length_cons, List.length_nil, Nat.reduceAdd, Nat.reduceSub, Array.replicate_succ, Array.replicate_zero, List.push_toArray, List.append_toArray, List.nil_append, List.cons_append]
  have c0 : W.cell? ⟨kR, 0, none⟩ = some (.slice A l.length c) := hbW.xr.cell 0
  have HTB := Lib.hid (tAt_bd (M := M) (B := B) (C := C) (J := J) (a := a) (s := s) (d := d) hf hsp)
  gi_wp2
  gi_loopw [9] (fun kv wr => ∃ i : Nat, i ≤ l.length ∧ kv = .int .i64 i ∧ J1 (List.range i) wr ∧ n ≤ wr.heap.size ∧ TmAt n kO kF kR M B C J a s d A c l (tAt M B C J a s d first l i) wr) (fun kv _ => l.length - (intOf kv).toNat)
  case atStart => exact ⟨0, by omega, rfl, h0, hnW, hbW⟩
  case round =>
    obtain ⟨i, hi, rfl, hJi, hnr, hbi⟩ := hrel
    clear hbW h0 c0
    obtain ⟨tb0, tb1⟩ := HTB.out i
    have HS : Hid (tAt M B C J a s d first l (i + 1) = tAt M B C J a s d first l i + (l[i]?.getD 0 + aft M B C J a s d ((i : Int) + 1))) := Lib.hid rfl
    have cF : wr.cell? ⟨kF, 0, none⟩ = some (.int .i64 (tAt M B C J a s d first l i)) := hbi.xf.cell 0
    obtain ⟨fn, tmps, assign, body, hy, hR⟩ := hY (List.range i) i wr hJi (by simp; omega)
    dsimp only [encT] at hy
    have tb2 : tAt M B C J a s d first l i ≤ 253402300799 + 30 * 206158430208 := by omega
    clear tb1
    by_cases hlt : i < l.length
    · have hil : (i : Int) < l.length := by omega
      obtain ⟨b, o, rfl, hbk, hbn, cR⟩ := hbi.rd i hlt
      have hz : 0 ≤ l[i]?.getD 0 ∧ l[i]?.getD 0 ≤ 68719476736 := by
        rw [List.getElem?_eq_getElem hlt]
        exact hsp _ (List.getElem_mem hlt)
      obtain ⟨z0, z1⟩ := hz
      have hab := aft_bd M B C J a s d ((i : Int) + 1)
      have HAF := Lib.hid (fun (w : World) (h : Tab w) => after_any M B C J a s d ((i : Int) + 1) ha (by omega) (by omega) w h)
      obtain ⟨a0, a1⟩ := hab
      generalize aft M B C J a s d ((i : Int) + 1) = q at *
      generalize l[i]?.getD 0 = z at *
      generalize tAt M B C J a s d first l i = t at *
      gi_wp2
      refine hR.mono ?_
      rintro e W3 ⟨rfl, hJ3, hk3⟩
      have hb3 := hbi.keep hk3
      have hn3 := Nat.le_trans hnr hk3.1
      clear cF cR hbi
      gi_wp2
      have cF : W3.cell? ⟨kF, 0, none⟩ = some (.int .i64 t) := hb3.xf.cell 0
      have fF : W3.frozen? ⟨kF, 0, none⟩ = false := hb3.xf.frozen 0
      have hT : Tab W3.drew := hb3.tb.g (G.refl _).drew
      have gD : G W3 W3.drew := (G.refl W3).drew
      have rO : W3.cell? ⟨kO, 0, none⟩ = some (.int .i64 M) ∧ W3.cell? ⟨kO, 1, none⟩ = some (.int .i64 B) ∧ W3.cell? ⟨kO, 2, none⟩ = some (.int .i64 C) ∧ W3.cell? ⟨kO, 3, none⟩ = some (.int .i64 J) ∧ W3.cell? ⟨kO, 4, none⟩ = some (.int .u64 a) ∧ W3.cell? ⟨kO, 5, none⟩ = some (.string s) ∧ W3.cell? ⟨kO, 6, none⟩ = some (.int .i64 d) := ⟨hb3.xo.cell 0, hb3.xo.cell 1, hb3.xo.cell 2, hb3.xo.cell 3, hb3.xo.cell 4, hb3.xo.cell 5, hb3.xo.cell 6⟩
      have rG : ∀ V, G W3 V → V.cell? ⟨kO, 0, none⟩ = some (.int .i64 M) ∧ V.cell? ⟨kO, 1, none⟩ = some (.int .i64 B) ∧ V.cell? ⟨kO, 2, none⟩ = some (.int .i64 C) ∧ V.cell? ⟨kO, 3, none⟩ = some (.int .i64 J) ∧ V.cell? ⟨kO, 4, none⟩ = some (.int .u64 a) ∧ V.cell? ⟨kO, 5, none⟩ = some (.string s) ∧ V.cell? ⟨kO, 6, none⟩ = some (.int .i64 d) := fun V g => ⟨(hb3.xo.g g).cell 0, (hb3.xo.g g).cell 1, (hb3.xo.g g).cell 2, (hb3.xo.g g).cell 3, (hb3.xo.g g).cell 4, (hb3.xo.g g).cell 5, (hb3.xo.g g).cell 6⟩
      have cG : ∀ V, G W3 V → V.cell? ⟨kF, 0, none⟩ = some (.int .i64 t) := fun V g => (hb3.xf.g g).cell 0
      clear HTB
      have hw0 : IntKind.i64.wrap ((i : Int) + 1) = (i : Int) + 1 := by rw [IntKind.wrap_i64]; omega
      have hw1 : IntKind.i64.wrap (z + q) = z + q := by rw [IntKind.wrap_i64]; omega
      have hw2 : IntKind.i64.wrap (t + (z + q)) = t + (z + q) := by rw [IntKind.wrap_i64]; omega
      refine wpIn_wide.2 ?_
      have KY := Lib.hid hY
      have KJ := Lib.hid hJ
      have KJ2 := Lib.hid hJ2
      have KZ := Lib.hid hJ3
      clear hJ hJ2 hY hk3 hR hy hJi
      have KO := Lib.hid rO
      clear rO
      have KR := Lib.hid rG
      have KB := Lib.hid hb3
      clear hb3
      have KC := Lib.hid cG
      clear rG cG
      have KS : Hid (∀ V u, G W3 V → (V.setCell ⟨kF, 0, none⟩ u).cell? ⟨kO, 0, none⟩ = some (.int .i64 M) ∧ (V.setCell ⟨kF, 0, none⟩ u).cell? ⟨kO, 1, none⟩ = some (.int .i64 B) ∧ (V.setCell ⟨kF, 0, none⟩ u).cell? ⟨kO, 2, none⟩ = some (.int .i64 C) ∧ (V.setCell ⟨kF, 0, none⟩ u).cell? ⟨kO, 3, none⟩ = some (.int .i64 J) ∧ (V.setCell ⟨kF, 0, none⟩ u).cell? ⟨kO, 4, none⟩ = some (.int .u64 a) ∧ (V.setCell ⟨kF, 0, none⟩ u).cell? ⟨kO, 5, none⟩ = some (.string s) ∧ (V.setCell ⟨kF, 0, none⟩ u).cell? ⟨kO, 6, none⟩ = some (.int .i64 d)) := Lib.hid (fun V u g => by
        have h := (KB.out.xo.g g).far (p := ⟨kF, 0, none⟩) KB.out.no.1 u
        exact ⟨h.cell 0, h.cell 1, h.cell 2, h.cell 3, h.cell 4, h.cell 5, h.cell 6⟩)
      have fD : W3.drew.frozen? ⟨kF, 0, none⟩ = false := (KB.out.xf.g gD).frozen 0
      have cD : W3.drew.cell? ⟨kF, 0, none⟩ = some (.int .i64 t) := KC.out _ gD
      refine wp_region_noPanic ?_
      refine wp_region_held_drew (S := fun w' => w'.cell? ⟨kO, 0, none⟩ = some (.int .i64 M) ∧ w'.cell? ⟨kO, 1, none⟩ = some (.int .i64 B) ∧ w'.cell? ⟨kO, 2, none⟩ = some (.int .i64 C) ∧ w'.cell? ⟨kO, 3, none⟩ = some (.int .i64 J) ∧ w'.cell? ⟨kO, 4, none⟩ = some (.int .u64 a) ∧ w'.cell? ⟨kO, 5, none⟩ = some (.string s) ∧ w'.cell? ⟨kO, 6, none⟩ = some (.int .i64 d)) (by kernel_rfl) (KR.out _ gD) (fun hHeld => ?_)
      refine wpAnyH_take (i := 1) (v := ?_) rfl (by kernel_rfl) (by kernel_rfl) (by kernel_rfl) (fun _ _ _ h => h) (Or.inl ⟨by rfl, ?_⟩) (by assumption) ?_
      rotate_left
      · intro w hSw
        (try dsimp only at hSw)
        go_simp
        all_goals (with_reducible rfl)
      try simp only [Act.put, List.setIfInBounds_toArray, List.set_cons_zero, List.set_cons_succ]
      refine wpAnyH_take (i := 2) (v := ?_) rfl (by kernel_rfl) (by kernel_rfl) (by kernel_rfl) (fun _ _ _ h => h) (Or.inl ⟨by rfl, ?_⟩) (by assumption) ?_
      rotate_left
      · intro w hSw
        (try dsimp only at hSw)
        go_simp
        all_goals (with_reducible rfl)
      try simp only [Act.put, List.setIfInBounds_toArray, List.set_cons_zero, List.set_cons_succ]
      refine wpAnyH_take (i := 3) (v := ?_) rfl (by kernel_rfl) (by kernel_rfl) (by kernel_rfl) (fun _ _ _ h => h) (Or.inl ⟨by rfl, ?_⟩) (by assumption) ?_
      rotate_left
      · intro w hSw
        (try dsimp only at hSw)
        go_simp
        all_goals (with_reducible rfl)
      try simp only [Act.put, List.setIfInBounds_toArray, List.set_cons_zero, List.set_cons_succ]
      refine wpAnyH_take (i := 4) (v := ?_) rfl (by kernel_rfl) (by kernel_rfl) (by kernel_rfl) (fun _ _ _ h => h) (Or.inl ⟨by rfl, ?_⟩) (by assumption) ?_
      rotate_left
      · intro w hSw
        (try dsimp only at hSw)
        go_simp
        all_goals (with_reducible rfl)
      try simp only [Act.put, List.setIfInBounds_toArray, List.set_cons_zero, List.set_cons_succ]
      refine wpAnyH_ready (rs := [0, 5]) (by kernel_rfl) (by simp) ?_
      refine AllReadyH.cons rfl (fun K hK => ?_) (AllReadyH.cons rfl (fun K hK => ?_) AllReadyH.nil)
      · go_simp
        refine hK.out _ _ (KR.out _ gD) (fun hHeld => ?_)
        clear hK K
        try simp only [Act.put, List.setIfInBounds_toArray, List.set_cons_zero, List.set_cons_succ]
        refine wpAnyH_ready (rs := [5]) (by kernel_rfl) (by simp) ?_
        refine AllReadyH.cons rfl (fun K hK => ?_) AllReadyH.nil
        go_simp
        go_at_call 40
        refine (HAF.out _ (by exact hT)).mono ?_
        rintro e v1 ⟨rfl, g5⟩
        replace g5 : G W3 v1 := gD.trans g5
        have cG : v1.cell? ⟨kF, 0, none⟩ = some (.int .i64 t) := KC.out _ g5
        have fG : v1.frozen? ⟨kF, 0, none⟩ = false := (KB.out.xf.g g5).frozen 0
        go_wp2_with fail
        refine hK.out _ _ (KR.out _ g5) (fun hHeld => ?_)
        clear hK K
        try simp only [Act.put, List.setIfInBounds_toArray, List.set_cons_zero, List.set_cons_succ]
        refine wpAnyH_take (i := 6) (v := ?_) rfl (by kernel_rfl) (by kernel_rfl) (by kernel_rfl) (fun _ _ _ h => h) (Or.inl ⟨by rfl, ?_⟩) (by assumption) ?_
        rotate_left
        · intro w hSw
          (try dsimp only at hSw)
          go_simp
          all_goals (with_reducible rfl)
        try simp only [Act.put, List.setIfInBounds_toArray, List.set_cons_zero, List.set_cons_succ]
        refine wpAnyH_take (i := 7) (v := ?_) rfl (by kernel_rfl) (by kernel_rfl) (by kernel_rfl) (fun _ _ _ h => h) (Or.inl ⟨by rfl, ?_⟩) (by assumption) ?_
        rotate_left
        · intro w hSw
          (try dsimp only at hSw)
          go_simp
          all_goals (with_reducible rfl)
        try simp only [Act.put, List.setIfInBounds_toArray, List.set_cons_zero, List.set_cons_succ]
        refine wpAnyH_ready (rs := [8]) (by kernel_rfl) (by simp) ?_
        refine AllReadyH.cons rfl (fun K hK => ?_) AllReadyH.nil
        go_simp
        refine hK.out _ _ (KS.out _ _ g5) (fun hHeld => ?_)
        clear hK K
        try simp only [Act.put, List.setIfInBounds_toArray, List.set_cons_zero, List.set_cons_succ]
        refine wpAnyH_done (by kernel_rfl) ?_ _
        refine NoPanic.normal ?_
        have hb4 := (KB.out.g g5 hn3).put (t + (z + q))
        rw [← HS.out] at hb4
        have hJ4 := KJ2.out _ _ (.int .i64 (t + (z + q))) (KJ.out _ _ _ none KZ.out (grown_of_G g5 none) (fun _ e => by cases e))
        rw [← List.range_succ, ← HS.out] at hJ4
        have hn4 : n ≤ (v1.setCell ⟨kF, 0, none⟩ (.int .i64 (t + (z + q)))).heap.size := by
          have := g5.size
          simp [World.setCell]
          omega
        rw [← HS.out] at hn4
        rw [← HS.out]
        gi_wp2
        go_roundw
        case rel => exact ⟨i + 1, by omega, by go_num, hJ4, hn4, hb4⟩
        case measure => simp [intOf]; omega
      · go_simp
        go_at_call 40
        refine (HAF.out _ (by exact hT)).mono ?_
        rintro e v1 ⟨rfl, g5⟩
        replace g5 : G W3 v1 := gD.trans g5
        have cG : v1.cell? ⟨kF, 0, none⟩ = some (.int .i64 t) := KC.out _ g5
        have fG : v1.frozen? ⟨kF, 0, none⟩ = false := (KB.out.xf.g g5).frozen 0
        go_wp2_with fail
        refine hK.out _ _ (KR.out _ g5) (fun hHeld => ?_)
        clear hK K
        try simp only [Act.put, List.setIfInBounds_toArray, List.set_cons_zero, List.set_cons_succ]
        refine wpAnyH_take (i := 6) (v := ?_) rfl (by kernel_rfl) (by kernel_rfl) (by kernel_rfl) (fun _ _ _ h => h) (Or.inl ⟨by rfl, ?_⟩) (by assumption) ?_
        rotate_left
        · intro w hSw
          (try dsimp only at hSw)
          go_simp
          all_goals (with_reducible rfl)
        try simp only [Act.put, List.setIfInBounds_toArray, List.set_cons_zero, List.set_cons_succ]
        refine wpAnyH_ready (rs := [0]) (by kernel_rfl) (by simp) ?_
        refine AllReadyH.cons rfl (fun K hK => ?_) AllReadyH.nil
        go_simp
        refine hK.out _ _ (KR.out _ g5) (fun hHeld => ?_)
        clear hK K
        try simp only [Act.put, List.setIfInBounds_toArray, List.set_cons_zero, List.set_cons_succ]
        refine wpAnyH_take (i := 7) (v := ?_) rfl (by kernel_rfl) (by kernel_rfl) (by kernel_rfl) (fun _ _ _ h => h) (Or.inl ⟨by rfl, ?_⟩) (by assumption) ?_
        rotate_left
        · intro w hSw
          (try dsimp only at hSw)
          go_simp
          all_goals (with_reducible rfl)
        try simp only [Act.put, List.setIfInBounds_toArray, List.set_cons_zero, List.set_cons_succ]
        refine wpAnyH_ready (rs := [8]) (by kernel_rfl) (by simp) ?_
        refine AllReadyH.cons rfl (fun K hK => ?_) AllReadyH.nil
        go_simp
        refine hK.out _ _ (KS.out _ _ g5) (fun hHeld => ?_)
        clear hK K
        try simp only [Act.put, List.setIfInBounds_toArray, List.set_cons_zero, List.set_cons_succ]
        refine wpAnyH_done (by kernel_rfl) ?_ _
        refine NoPanic.normal ?_
        have hb4 := (KB.out.g g5 hn3).put (t + (z + q))
        rw [← HS.out] at hb4
        have hJ4 := KJ2.out _ _ (.int .i64 (t + (z + q))) (KJ.out _ _ _ none KZ.out (grown_of_G g5 none) (fun _ e => by cases e))
        rw [← List.range_succ, ← HS.out] at hJ4
        have hn4 : n ≤ (v1.setCell ⟨kF, 0, none⟩ (.int .i64 (t + (z + q)))).heap.size := by
          have := g5.size
          simp [World.setCell]
          omega
        rw [← HS.out] at hn4
        rw [← HS.out]
        gi_wp2
        go_roundw
        case rel => exact ⟨i + 1, by omega, by go_num, hJ4, hn4, hb4⟩
        case measure => simp [intOf]; omega
    · obtain rfl : i = l.length := by omega
      generalize tAt M B C J a s d first l l.length = t at *
      gi_wp2
      refine hR.mono ?_
      rintro e W3 ⟨rfl, hJ3, hk3⟩
      rw [← List.range_succ] at hJ3
      gi_wp2
      go_end0
      exact ⟨⟨_, rfl⟩, _, rfl, hJ3⟩
end Go.Proofs.YtanipfenioaigaaDoor
