/-
  The document's Chain.
-/
import Derived.Maps.AppendAt
import Derived.Deep.RegionHeld3
import Derived.Test.YtanipfenioaigaaDoorRtD
import Derived.Test.YtanipfenioaigaaDoorRtF
set_option linter.unusedVariables false
set_option linter.unusedSimpArgs false
namespace Go.Proofs.YtanipfenioaigaaDoor
open Go.RowKit Go.Shelf

theorem vI_app_ (k : IntKind) (l : List Int) (x : Int) : vI k l ++ [.int k x] = vI k (l ++ [x]) := by simp [vI]
theorem lt_all {l : List Int} (h : ∀ j, j < l.length → spB (l[j]?.getD 0)) : ∀ x ∈ l, spB x := fun x hx => by
  obtain ⟨j, hj, rfl⟩ := List.getElem_of_mem hx
  have := h j hj
  rw [List.getElem?_eq_getElem hj] at this
  exact this
theorem tAt_get (f : Nat → Int) (i k : Nat) (h : i < k) : (vI .i64 ((List.range k).map f))[i]? = some (.int .i64 (f i)) := by
  simp only [vI, List.map_map, List.getElem?_map]
  rw [List.getElem?_range h]
  rfl
theorem own_one {w : World} {k base : Nat} {t : TypeId} {x : Value} (h : Blk w k t #[x]) (hb : base ≤ k) : w.ownsRow base t 1 (.slice (some ⟨k, 0, none⟩) 1 1) 1 [x] :=
  ⟨rfl, .inr ⟨k, 1, #[x], rfl, hb, h, by omega, by decide, rfl, rfl⟩⟩
set_option maxRecDepth 20000 in
set_option maxHeartbeats 8000000 in
theorem rchain_any (M B C J a : Int) (s : ByteArray) (d first : Int) (v : Value) (l : List Int) (ha : u64 a) (hsz : s.size < 9223372036854775807) (hl30 : l.length ≤ 30) (w : World) (hR : Rd w v (vI .i64 l)) :
    Calls Tryd.prog 15 #[.agg #[.int .i64 M, .int .i64 B, .int .i64 C, .int .i64 J], .int .u64 a, .string s, .int .i64 d, .int .i64 first, v] w fun e w' => ∃ v', e = .returned (.tuple #[v', .int .i64 (chE M B C J s d first l)]) ∧ Rd w' v' (vI .i64 (chL M B C J a s d first l)) ∧ G w w' := by
  have HQ := Lib.hid (rcheck31_any M B C J s d first hsz)
  obtain ⟨A, c, rfl, hc, hcm, hd⟩ := hR
  rw [vI_len] at hc hd ⊢
  by_cases hE : rtE M B C J s d first = 0
  · rw [hE] at HQ
    by_cases hm : (l.length : Int) ≤ M
    · obtain ⟨hok, hn, hdd, hx⟩ := rtE_ok hE
      have HX := Lib.hid hx
      obtain ⟨E, hEE⟩ : ∃ E, chE M B C J s d first l = E := ⟨_, rfl⟩
      obtain ⟨L, hLL⟩ : ∃ L, chL M B C J a s d first l = L := ⟨_, rfl⟩
      have HE1 : Hid ((∀ x ∈ l, spB x) → E = 0 ∧ L = (List.range (l.length + 1)).map (tAt M B C J a s d first l)) := Lib.hid (fun h => by
        have : chE M B C J s d first l = 0 := by unfold chE; rw [if_pos hE, if_pos hm, if_pos h]
        exact ⟨by rw [← hEE, this], by rw [← hLL]; exact if_pos this⟩)
      have HE2 : Hid (¬ (∀ x ∈ l, spB x) → E = 2 ∧ L = []) := Lib.hid (fun h => by
        have : chE M B C J s d first l = 2 := by unfold chE; rw [if_pos hE, if_pos hm, if_neg h]
        exact ⟨by rw [← hEE, this], by rw [← hLL]; exact if_neg (by rw [this]; decide)⟩)
      rw [hEE, hLL]
      clear hE hok hn hdd hx hEE hLL
      go_enter Tryd.func15, Tryd.ntmps15
      go_wp2_with fail
      go_at_call 37
      refine (HQ.out _).mono ?_
      rintro e w1 ⟨rfl, g1⟩
      have hr : Blk w1 w.heap.size 23 #[.int .i64 M, .int .i64 B, .int .i64 C, .int .i64 J] := (Blk.new w _ _).g g1
      have c0 : w1.cell? ⟨w.heap.size, 0, none⟩ = some (.int .i64 M) := hr.cell 0
      have gW : G w w1 := ((G.refl w).alloc _).trans g1
      clear g1
      go_wp2_with fail
      go_loopw [15] (fun iv wr => ∃ k : Nat, k ≤ l.length ∧ iv = .int .i64 k ∧ Hid (∀ j, j < k → spB (l[j]?.getD 0)) ∧ G w1 wr) (fun iv _ => l.length - (intOf iv).toNat)
      case atStart => exact ⟨0, by omega, rfl, Lib.hid (fun j hj => absurd hj (Nat.not_lt_zero _)), G.refl _⟩
      case round =>
        obtain ⟨k, hk, rfl, HA, hg⟩ := hrel
        by_cases hlt : k < l.length
        · obtain ⟨b1, o1, rfl, c1⟩ := hd (by omega)
          have e1 := gW.cell (World.block_lt_of_cell? w _ (c1 k _ (vI_get hlt))) (c1 k _ (vI_get hlt))
          have f1 := hg.cell (World.block_lt_of_cell? w1 _ e1) e1
          clear c1 e1
          have hki : (k : Int) < l.length := by omega
          obtain ⟨x, hx⟩ : ∃ x, l[k]?.getD 0 = x := ⟨_, rfl⟩
          have HXk := Lib.hid hx
          rw [hx] at f1
          clear hx
          by_cases hs : spB x
          · have HS := Lib.hid (decide_eq_true hs)
            have HB : Hid (∀ j, j < k + 1 → spB (l[j]?.getD 0)) := Lib.hid (fun j hj => by
              by_cases e : j = k
              · subst e; rw [HXk.out]; exact hs
              · exact HA.out j (by omega))
            clear hs
            go_wp2_with fail
            go_at_call 38
            refine (rspan_b x true HS.out _).mono ?_
            rintro e w2 ⟨rfl, rfl⟩
            go_wp2_with fail
            go_roundw
            case rel => exact ⟨k + 1, by omega, by go_num, HB, hg⟩
            case measure => simp [intOf]; omega
          · have HS := Lib.hid (decide_eq_false hs)
            have HN := Lib.hid (HE2.out (fun h => hs (by
              rw [← HXk.out, List.getElem?_eq_getElem hlt]
              exact h _ (List.getElem_mem hlt))))
            clear hs
            obtain ⟨rfl, rfl⟩ := HN.out
            go_wp2_with fail
            go_at_call 38
            refine (rspan_b x false HS.out _).mono ?_
            rintro e w2 ⟨rfl, rfl⟩
            go_wp2_with fail
            go_ret2
            exact ⟨_, rfl, Rd.nil _, gW.trans hg⟩
        · obtain rfl : k = l.length := by omega
          have hsp := lt_all HA.out
          obtain ⟨rfl, rfl⟩ := HE1.out hsp
          have HTB := Lib.hid (tAt_bd (M := M) (B := B) (C := C) (J := J) (a := a) (s := s) (d := d) HX.out hsp)
          have HSP := Lib.hid hsp
          clear HA HE1 HE2 hsp
          have hrr := hr.g hg
          have gW2 := gW.trans hg
          clear hr c0 gW hg
          obtain ⟨i0, hi, hz0, hz1, hz2⟩ := info_parts info_i64r
          go_wp2_with fail
          have hown0 : (wr.alloc (.cells #[.int .i64 first] 2)).ownsRow wr.heap.size 2 1 (.slice (some ⟨wr.heap.size, 0, none⟩) 1 1) 1 (vI .i64 ((List.range 1).map (tAt M B C J a s d first l))) := own_one (Blk.new wr _ _) (Nat.le_refl _)
          have hnw : w.heap.size < wr.heap.size := hrr.lt
          have gA := (G.refl wr).alloc (.cells #[.int .i64 first] 2)
          obtain ⟨w0, hw00⟩ : ∃ w0, wr = w0 := ⟨_, rfl⟩
          subst hw00
          obtain ⟨n, hn⟩ : ∃ n, wr.heap.size = n := ⟨_, rfl⟩
          rw [hn] at hown0 hnw ⊢
          generalize wr.alloc (.cells #[.int .i64 first] 2) = w1 at *
          obtain ⟨w0, hw00⟩ : ∃ w0, w0 = wr := ⟨_, rfl⟩
          rw [← hw00] at hrr gW2 gA hn
          clear hw00
          go_loopw [16, 17] (fun ov iv wr => ∃ k : Nat, k ≤ l.length ∧ iv = .int .i64 k ∧ G w0 wr ∧ wr.ownsRow n 2 1 ov (k + 1) (vI .i64 ((List.range (k + 1)).map (tAt M B C J a s d first l)))) (fun _ iv _ => l.length - (intOf iv).toNat)
          case atStart => exact ⟨0, by omega, rfl, gA, hown0⟩
          case round =>
            obtain ⟨k, hk, rfl, hg, hown⟩ := hrel
            clear hown0
            obtain ⟨A2, c2, rfl, hc2, hcm2, hd2⟩ := Rd.of_own hown
            rw [show (vI .i64 ((List.range (k + 1)).map (tAt M B C J a s d first l))).length = k + 1 by simp [vI]] at hc2 hd2 hown ⊢
            by_cases hlt : k < l.length
            · obtain ⟨bO, oO, rfl, cO⟩ := hd2 (by omega)
              replace cO := cO k _ (tAt_get _ k (k + 1) (by omega))
              obtain ⟨bR, oR, rfl, cR⟩ := hd (by omega)
              replace cR := cR k _ (vI_get hlt)
              have hbR : bR < w.heap.size := World.block_lt_of_cell? w _ cR
              have HS : Hid ((List.range (k + 1 + 1)).map (tAt M B C J a s d first l) = (List.range (k + 1)).map (tAt M B C J a s d first l) ++ [tAt M B C J a s d first l k + l[k]?.getD 0 + aft M B C J a s d ((k : Int) + 1)]) := Lib.hid (by
                rw [List.range_succ, List.map_append, Int.add_assoc]
                rfl)
              obtain ⟨t0, t1⟩ := HTB.out k
              have hz : 0 ≤ l[k]?.getD 0 ∧ l[k]?.getD 0 ≤ 68719476736 := by
                rw [List.getElem?_eq_getElem hlt]
                exact HSP.out _ (List.getElem_mem hlt)
              obtain ⟨z0, z1⟩ := hz
              obtain ⟨q0, q1⟩ := aft_bd M B C J a s d ((k : Int) + 1)
              have HAF := Lib.hid (fun w => rafter_any M B C J a s d ((k : Int) + 1) ha hsz (by omega) (by omega) w)
              have t2 : tAt M B C J a s d first l k ≤ 253402300799 + 30 * 206158430208 := by omega
              clear t1 hd hd2 HTB
              have HU := HS
              clear HS
              generalize hXL : (List.range (k + 1)).map (tAt M B C J a s d first l) = XL at *
              generalize hYL : (List.range (k + 1 + 1)).map (tAt M B C J a s d first l) = YL at *
              generalize aft M B C J a s d ((k : Int) + 1) = q at *
              generalize l[k]?.getD 0 = z at *
              generalize tAt M B C J a s d first l k = t at *
              have cRr : wr.cell? ⟨bR, oR + k, none⟩ = some (.int .i64 z) := (gW2.trans hg).cell hbR cR
              replace hrr := hrr.g hg
              have hnr : n ≤ wr.heap.size := by have := hg.size; omega
              have hki : (k : Int) < l.length := by omega
              have KK : Hid (∀ V, KeepN n wr V → V.cell? ⟨bR, oR + k, none⟩ = some (.int .i64 z) ∧ V.cell? ⟨w.heap.size, 0, none⟩ = some (.int .i64 M) ∧ V.cell? ⟨w.heap.size, 1, none⟩ = some (.int .i64 B) ∧ V.cell? ⟨w.heap.size, 2, none⟩ = some (.int .i64 C) ∧ V.cell? ⟨w.heap.size, 3, none⟩ = some (.int .i64 J)) := Lib.hid (fun V h => ⟨h.cell (by omega) cRr, h.cell hnw (hrr.cell 0), h.cell hnw (hrr.cell 1), h.cell hnw (hrr.cell 2), h.cell hnw (hrr.cell 3)⟩)
              have gD : G wr wr.drew := (G.refl wr).drew
              have cD : wr.drew.cell? ⟨bO, oO + k, none⟩ = some (.int .i64 t) := cO
              have hkk : (k : Int) < (k : Int) + 1 := by omega
              have hw0 : IntKind.i64.wrap ((k : Int) + 1) = (k : Int) + 1 := by rw [IntKind.wrap_i64]; omega
              have hw1 : IntKind.i64.wrap (t + z) = t + z := by rw [IntKind.wrap_i64]; omega
              have hw2 : IntKind.i64.wrap (t + z + q) = t + z + q := by rw [IntKind.wrap_i64]; omega
              clear cRr hrr cR hcm hcm2
              go_wp2_with fail
              refine wp_region_noPanic ?_
              refine wp_region_held_drew (S := (fun w' => w'.cell? ⟨bR, oR + k, none⟩ = some (.int .i64 z) ∧ w'.cell? ⟨w.heap.size, 0, none⟩ = some (.int .i64 M) ∧ w'.cell? ⟨w.heap.size, 1, none⟩ = some (.int .i64 B) ∧ w'.cell? ⟨w.heap.size, 2, none⟩ = some (.int .i64 C) ∧ w'.cell? ⟨w.heap.size, 3, none⟩ = some (.int .i64 J))) (by kernel_rfl) (KK.out _ (KeepN.of_g gD hnr)) (fun hHeld => ?_)
              refine wpAnyH_take (i := 0) (v := ?_) rfl (by kernel_rfl) (by kernel_rfl) (by kernel_rfl) (fun _ _ _ h => h) (Or.inl ⟨by rfl, ?_⟩) (by assumption) ?_
              rotate_left
              · intro w hSw
                (try dsimp only at hSw)
                go_simp
                all_goals (with_reducible rfl)
              try simp only [Act.put, List.setIfInBounds_toArray, List.set_cons_zero, List.set_cons_succ]
              refine wpAnyH_take (i := 1) (v := ?_) rfl (by kernel_rfl) (by kernel_rfl) (by kernel_rfl) (fun _ _ _ h => h) (Or.inl ⟨by rfl, ?_⟩) (by assumption) ?_
              rotate_left
              · intro w hSw
                (try dsimp only at hSw)
                go_simp
                all_goals (with_reducible rfl)
              try simp only [Act.put, List.setIfInBounds_toArray, List.set_cons_zero, List.set_cons_succ]
              refine wpAnyH_take (i := 2) (v := ?_) rfl (by kernel_rfl) (by kernel_rfl) (by kernel_rfl) (fun _ _ _ h => h) (Or.inl ⟨by rfl, ?_⟩) (by assumption) ?_
              rotate_left
              · intro w hSw
                (try dsimp only at hSw)
                go_simp
                all_goals (with_reducible rfl)
              try simp only [Act.put, List.setIfInBounds_toArray, List.set_cons_zero, List.set_cons_succ]
              refine wpAnyH_take (i := 3) (v := ?_) rfl (by kernel_rfl) (by kernel_rfl) (by kernel_rfl) (fun _ _ _ h => h) (Or.inl ⟨by rfl, ?_⟩) (by assumption) ?_
              rotate_left
              · intro w hSw
                (try dsimp only at hSw)
                go_simp
                all_goals (with_reducible rfl)
              try simp only [Act.put, List.setIfInBounds_toArray, List.set_cons_zero, List.set_cons_succ]
              refine wpAnyH_take (i := 5) (v := ?_) rfl (by kernel_rfl) (by kernel_rfl) (by kernel_rfl) (fun _ _ _ h => h) (Or.inl ⟨by rfl, ?_⟩) (by assumption) ?_
              rotate_left
              · intro w hSw
                (try dsimp only at hSw)
                go_simp
                all_goals (with_reducible rfl)
              try simp only [Act.put, List.setIfInBounds_toArray, List.set_cons_zero, List.set_cons_succ]
              refine wpAnyH_take (i := 6) (v := ?_) rfl (by kernel_rfl) (by kernel_rfl) (by kernel_rfl) (fun _ _ _ h => h) (Or.inl ⟨by rfl, ?_⟩) (by assumption) ?_
              rotate_left
              · intro w hSw
                (try dsimp only at hSw)
                go_simp
                all_goals (with_reducible rfl)
              try simp only [Act.put, List.setIfInBounds_toArray, List.set_cons_zero, List.set_cons_succ]
              refine wpAnyH_take (i := 7) (v := ?_) rfl (by kernel_rfl) (by kernel_rfl) (by kernel_rfl) (fun _ _ _ h => h) (Or.inl ⟨by rfl, ?_⟩) (by assumption) ?_
              rotate_left
              · intro w hSw
                (try dsimp only at hSw)
                go_simp
                all_goals (with_reducible rfl)
              try simp only [Act.put, List.setIfInBounds_toArray, List.set_cons_zero, List.set_cons_succ]
              refine wpAnyH_take (i := 8) (v := ?_) rfl (by kernel_rfl) (by kernel_rfl) (by kernel_rfl) (fun _ _ _ h => h) (Or.inl ⟨by rfl, ?_⟩) (by assumption) ?_
              rotate_left
              · intro w hSw
                (try dsimp only at hSw)
                go_simp
                all_goals (with_reducible rfl)
              try simp only [Act.put, List.setIfInBounds_toArray, List.set_cons_zero, List.set_cons_succ]
              refine wpAnyH_take (i := 10) (v := ?_) rfl (by kernel_rfl) (by kernel_rfl) (by kernel_rfl) (fun _ _ _ h => h) (Or.inl ⟨by rfl, ?_⟩) (by assumption) ?_
              rotate_left
              · intro w hSw
                (try dsimp only at hSw)
                go_simp
                all_goals (with_reducible rfl)
              try simp only [Act.put, List.setIfInBounds_toArray, List.set_cons_zero, List.set_cons_succ]
              refine wpAnyH_take (i := 11) (v := ?_) rfl (by kernel_rfl) (by kernel_rfl) (by kernel_rfl) (fun _ _ _ h => h) (Or.inl ⟨by rfl, ?_⟩) (by assumption) ?_
              rotate_left
              · intro w hSw
                (try dsimp only at hSw)
                go_simp
                all_goals (with_reducible rfl)
              try simp only [Act.put, List.setIfInBounds_toArray, List.set_cons_zero, List.set_cons_succ]
              refine wpAnyH_take (i := 12) (v := ?_) rfl (by kernel_rfl) (by kernel_rfl) (by kernel_rfl) (fun _ _ _ h => h) (Or.inl ⟨by rfl, ?_⟩) (by assumption) ?_
              rotate_left
              · intro w hSw
                (try dsimp only at hSw)
                go_simp
                all_goals (with_reducible rfl)
              try simp only [Act.put, List.setIfInBounds_toArray, List.set_cons_zero, List.set_cons_succ]
              refine wpAnyH_take (i := 13) (v := ?_) rfl (by kernel_rfl) (by kernel_rfl) (by kernel_rfl) (fun _ _ _ h => h) (Or.inl ⟨by rfl, ?_⟩) (by assumption) ?_
              rotate_left
              · intro w hSw
                (try dsimp only at hSw)
                go_simp
                all_goals (with_reducible rfl)
              try simp only [Act.put, List.setIfInBounds_toArray, List.set_cons_zero, List.set_cons_succ]
              refine wpAnyH_take (i := 14) (v := ?_) rfl (by kernel_rfl) (by kernel_rfl) (by kernel_rfl) (fun _ _ _ h => h) (Or.inl ⟨by rfl, ?_⟩) (by assumption) ?_
              rotate_left
              · intro w hSw
                (try dsimp only at hSw)
                go_simp
                all_goals (with_reducible rfl)
              try simp only [Act.put, List.setIfInBounds_toArray, List.set_cons_zero, List.set_cons_succ]
              refine wpAnyH_take (i := 15) (v := ?_) rfl (by kernel_rfl) (by kernel_rfl) (by kernel_rfl) (fun _ _ _ h => h) (Or.inl ⟨by rfl, ?_⟩) (by assumption) ?_
              rotate_left
              · intro w hSw
                (try dsimp only at hSw)
                go_simp
                all_goals (with_reducible rfl)
              try simp only [Act.put, List.setIfInBounds_toArray, List.set_cons_zero, List.set_cons_succ]
              refine wpAnyH_ready (rs := [4, 16]) (by kernel_rfl) (by simp) ?_
              refine AllReadyH.cons rfl (fun K hK => ?_) (AllReadyH.cons rfl (fun K hK => ?_) AllReadyH.nil)
              · go_simp
                refine hK.out _ _ (KK.out _ (KeepN.of_g gD hnr)) (fun hHeld => ?_)
                clear hK K
                try simp only [Act.put, List.setIfInBounds_toArray, List.set_cons_zero, List.set_cons_succ]
                refine wpAnyH_take (i := 9) (v := ?_) rfl (by kernel_rfl) (by kernel_rfl) (by kernel_rfl) (fun _ _ _ h => h) (Or.inl ⟨by rfl, ?_⟩) (by assumption) ?_
                rotate_left
                · intro w hSw
                  (try dsimp only at hSw)
                  go_simp
                  all_goals (with_reducible rfl)
                try simp only [Act.put, List.setIfInBounds_toArray, List.set_cons_zero, List.set_cons_succ]
                refine wpAnyH_ready (rs := [16]) (by kernel_rfl) (by simp) ?_
                refine AllReadyH.cons rfl (fun K hK => ?_) AllReadyH.nil
                go_simp
                go_at_call 39
                refine (HAF.out _).mono ?_
                rintro e v1 ⟨rfl, g5⟩
                replace g5 : G wr v1 := gD.trans g5
                have cG : v1.cell? ⟨bO, oO + k, none⟩ = some (.int .i64 t) := g5.cell (World.block_lt_of_cell? wr _ cO) cO
                have hown2 := ownsRow_g hown g5
                have hsz1 : n ≤ v1.heap.size := Nat.le_trans hnr g5.size
                go_wp2_with fail
                refine hK.out _ _ (KK.out _ (KeepN.of_g g5 hnr)) (fun hHeld => ?_)
                clear hK K
                try simp only [Act.put, List.setIfInBounds_toArray, List.set_cons_zero, List.set_cons_succ]
                refine wpAnyH_take (i := 17) (v := ?_) rfl (by kernel_rfl) (by kernel_rfl) (by kernel_rfl) (fun _ _ _ h => h) (Or.inl ⟨by rfl, ?_⟩) (by assumption) ?_
                rotate_left
                · intro w hSw
                  (try dsimp only at hSw)
                  go_simp
                  all_goals (with_reducible rfl)
                try simp only [Act.put, List.setIfInBounds_toArray, List.set_cons_zero, List.set_cons_succ]
                refine wpAnyH_ready (rs := [18]) (by kernel_rfl) (by simp) ?_
                refine AllReadyH.cons rfl (fun K hK => ?_) AllReadyH.nil
                (go_simp)
                refine hK.out _ _ (KK.out _ (KeepN.of_g (g5.alloc _) hnr)) (fun hHeld => ?_)
                clear hK K
                try simp only [Act.put, List.setIfInBounds_toArray, List.set_cons_zero, List.set_cons_succ]
                refine wpAnyH_ready (rs := [19]) (by kernel_rfl) (by simp) ?_
                refine AllReadyH.cons rfl (fun K hK => ?_) AllReadyH.nil
                (try rw [if_pos (by rfl)])
                refine wp_append_own _ _ _ 27 rfl n 2 i0 (.int .i64 0) 1 8 Tryd.underlying27 hi hz0 hz1 hz2 rfl (by decide) _ _ _ rfl (hown2.alloc _) ⟨v1.heap.size, 0, none⟩ 1 1 [.int .i64 (t + z + q)] rfl rfl (cell_one_new _ _ _) (by simp [Value.oneCell']) (by unfold maxLen; omega) (by omega) (by simp; omega) ?_
                intro v' w3 hown' hgrow _
                have kN3 : KeepN n wr w3 := (KeepN.of_g (g5.alloc _) hnr).trans (KeepN.of_grown hgrow (by simp; omega) (fun r e => (hown2.lt r e).1))
                have hg3 : G w0 w3 := by
                  have h0 : G w0 (v1.alloc (.cells #[.int .i64 (t + z + q)] 2)) := (hg.trans g5).alloc _
                  exact h0.grown hgrow (fun r e => by have := (hown2.lt r e).1; omega)
                refine hK.out _ _ (KK.out _ kN3) (fun hHeld => ?_)
                clear hK K
                try simp only [Act.put, List.setIfInBounds_toArray, List.set_cons_zero, List.set_cons_succ]
                refine wpAnyH_ready (rs := [20]) (by kernel_rfl) (by simp) ?_
                refine AllReadyH.cons rfl (fun K hK => ?_) AllReadyH.nil
                go_simp
                refine hK.out _ _ (KK.out _ kN3) (fun hHeld => ?_)
                clear hK K
                try simp only [Act.put, List.setIfInBounds_toArray, List.set_cons_zero, List.set_cons_succ]
                refine wpAnyH_done (by kernel_rfl) ?_ _
                refine NoPanic.normal ?_
                rw [vI_app_, ← HU.out] at hown'
                go_wp2_with fail
                go_roundw
                case rel => exact ⟨k + 1, by omega, by go_num, hg3, by rw [hYL]; exact hown'⟩
                case measure => simp [intOf]; omega
              · go_simp
                go_at_call 39
                refine (HAF.out _).mono ?_
                rintro e v1 ⟨rfl, g5⟩
                replace g5 : G wr v1 := gD.trans g5
                have cG : v1.cell? ⟨bO, oO + k, none⟩ = some (.int .i64 t) := g5.cell (World.block_lt_of_cell? wr _ cO) cO
                have hown2 := ownsRow_g hown g5
                have hsz1 : n ≤ v1.heap.size := Nat.le_trans hnr g5.size
                go_wp2_with fail
                refine hK.out _ _ (KK.out _ (KeepN.of_g g5 hnr)) (fun hHeld => ?_)
                clear hK K
                try simp only [Act.put, List.setIfInBounds_toArray, List.set_cons_zero, List.set_cons_succ]
                refine wpAnyH_ready (rs := [4]) (by kernel_rfl) (by simp) ?_
                refine AllReadyH.cons rfl (fun K hK => ?_) AllReadyH.nil
                go_simp
                refine hK.out _ _ (KK.out _ (KeepN.of_g g5 hnr)) (fun hHeld => ?_)
                clear hK K
                try simp only [Act.put, List.setIfInBounds_toArray, List.set_cons_zero, List.set_cons_succ]
                refine wpAnyH_take (i := 9) (v := ?_) rfl (by kernel_rfl) (by kernel_rfl) (by kernel_rfl) (fun _ _ _ h => h) (Or.inl ⟨by rfl, ?_⟩) (by assumption) ?_
                rotate_left
                · intro w hSw
                  (try dsimp only at hSw)
                  go_simp
                  all_goals (with_reducible rfl)
                try simp only [Act.put, List.setIfInBounds_toArray, List.set_cons_zero, List.set_cons_succ]
                refine wpAnyH_take (i := 17) (v := ?_) rfl (by kernel_rfl) (by kernel_rfl) (by kernel_rfl) (fun _ _ _ h => h) (Or.inl ⟨by rfl, ?_⟩) (by assumption) ?_
                rotate_left
                · intro w hSw
                  (try dsimp only at hSw)
                  go_simp
                  all_goals (with_reducible rfl)
                try simp only [Act.put, List.setIfInBounds_toArray, List.set_cons_zero, List.set_cons_succ]
                refine wpAnyH_ready (rs := [18]) (by kernel_rfl) (by simp) ?_
                refine AllReadyH.cons rfl (fun K hK => ?_) AllReadyH.nil
                (go_simp)
                refine hK.out _ _ (KK.out _ (KeepN.of_g (g5.alloc _) hnr)) (fun hHeld => ?_)
                clear hK K
                try simp only [Act.put, List.setIfInBounds_toArray, List.set_cons_zero, List.set_cons_succ]
                refine wpAnyH_ready (rs := [19]) (by kernel_rfl) (by simp) ?_
                refine AllReadyH.cons rfl (fun K hK => ?_) AllReadyH.nil
                (try rw [if_pos (by rfl)])
                refine wp_append_own _ _ _ 27 rfl n 2 i0 (.int .i64 0) 1 8 Tryd.underlying27 hi hz0 hz1 hz2 rfl (by decide) _ _ _ rfl (hown2.alloc _) ⟨v1.heap.size, 0, none⟩ 1 1 [.int .i64 (t + z + q)] rfl rfl (cell_one_new _ _ _) (by simp [Value.oneCell']) (by unfold maxLen; omega) (by omega) (by simp; omega) ?_
                intro v' w3 hown' hgrow _
                have kN3 : KeepN n wr w3 := (KeepN.of_g (g5.alloc _) hnr).trans (KeepN.of_grown hgrow (by simp; omega) (fun r e => (hown2.lt r e).1))
                have hg3 : G w0 w3 := by
                  have h0 : G w0 (v1.alloc (.cells #[.int .i64 (t + z + q)] 2)) := (hg.trans g5).alloc _
                  exact h0.grown hgrow (fun r e => by have := (hown2.lt r e).1; omega)
                refine hK.out _ _ (KK.out _ kN3) (fun hHeld => ?_)
                clear hK K
                try simp only [Act.put, List.setIfInBounds_toArray, List.set_cons_zero, List.set_cons_succ]
                refine wpAnyH_ready (rs := [20]) (by kernel_rfl) (by simp) ?_
                refine AllReadyH.cons rfl (fun K hK => ?_) AllReadyH.nil
                go_simp
                refine hK.out _ _ (KK.out _ kN3) (fun hHeld => ?_)
                clear hK K
                try simp only [Act.put, List.setIfInBounds_toArray, List.set_cons_zero, List.set_cons_succ]
                refine wpAnyH_done (by kernel_rfl) ?_ _
                refine NoPanic.normal ?_
                rw [vI_app_, ← HU.out] at hown'
                go_wp2_with fail
                go_roundw
                case rel => exact ⟨k + 1, by omega, by go_num, hg3, by rw [hYL]; exact hown'⟩
                case measure => simp [intOf]; omega
            · obtain rfl : k = l.length := by omega
              go_wp2_with fail
              go_ret2
              exact ⟨_, rfl, Rd.of_own hown, gW2.trans hg⟩
    · have HE : Hid (chE M B C J s d first l = 12) := Lib.hid (by unfold chE; rw [if_pos hE, if_neg hm])
      have HL : Hid (chL M B C J a s d first l = []) := Lib.hid (if_neg (by rw [HE.out]; decide))
      rw [HE.out, HL.out]
      have hm2 : M < l.length := by omega
      clear hm HE HL hE
      go_enter Tryd.func15, Tryd.ntmps15
      go_wp2_with fail
      go_at_call 37
      refine (HQ.out _).mono ?_
      rintro e w1 ⟨rfl, g1⟩
      have hr : Blk w1 w.heap.size 23 #[.int .i64 M, .int .i64 B, .int .i64 C, .int .i64 J] := (Blk.new w _ _).g g1
      have c0 : w1.cell? ⟨w.heap.size, 0, none⟩ = some (.int .i64 M) := hr.cell 0
      have gW : G w w1 := ((G.refl w).alloc _).trans g1
      clear g1
      go_wp2_with fail
      go_ret2
      exact ⟨_, rfl, Rd.nil _, gW⟩
  · have HE : Hid (chE M B C J s d first l = rtE M B C J s d first) := Lib.hid (if_neg hE)
    have HL : Hid (chL M B C J a s d first l = []) := Lib.hid (if_neg (by rw [HE.out]; exact hE))
    rw [HE.out, HL.out]
    generalize rtE M B C J s d first = q at *
    have h0 : (q == 0) = false := by simpa using hE
    have h1 : (q != 0) = true := by simpa using hE
    clear HE HL hE
    go_enter Tryd.func15, Tryd.ntmps15
    go_wp2_with fail
    go_at_call 37
    refine (HQ.out _).mono ?_
    rintro e w1 ⟨rfl, g1⟩
    have hr : Blk w1 w.heap.size 23 #[.int .i64 M, .int .i64 B, .int .i64 C, .int .i64 J] := (Blk.new w _ _).g g1
    have c0 : w1.cell? ⟨w.heap.size, 0, none⟩ = some (.int .i64 M) := hr.cell 0
    have gW : G w w1 := ((G.refl w).alloc _).trans g1
    clear g1
    go_wp2_with fail
    go_ret2
    exact ⟨_, rfl, Rd.nil _, gW⟩
end Go.Proofs.YtanipfenioaigaaDoor
