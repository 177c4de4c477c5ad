/-
  GcraAgain: a limiter that is restored goes on as the one whose arrival time it has.
-/
import Derived.Test.YtgookddningjpaaTieP
import Derived.Test.YtgookddningjpaaRefK
set_option linter.unusedVariables false
set_option linter.unusedSimpArgs false
namespace Go.Proofs.Ytgookddningjpaa.lawGcraAgain
open Go.ChangeShapes Go.WideShapes Go.ChangeAt Go.RowKit

theorem mono_ {ts : List Int} (h : StepsOk ts) {j k : Nat} (hj : j ≤ k) (hk : k < ts.length) : at_ ts j ≤ at_ ts k := by
  induction k with
  | zero => obtain rfl : j = 0 := by omega
            exact Int.le_refl _
  | succ k ih =>
    by_cases e : j = k + 1
    · rw [e]; exact Int.le_refl _
    · exact Int.le_trans (ih (by omega) (by omega)) (h.2.2 k hk)
/-- a limiter's state behind launches up to the time nw -/
def AgS (nw : Int) (som : Bool) (tat last T U : Int) : Prop := Fine som tat last T U ∧ (som = true → T ≤ tat ∧ tat ≤ nw + T + U) ∧ (0 ≤ last ∧ last ≤ nw)
theorem AgS.tk {nw x : Int} {som : Bool} {tat last T U : Int} (h : AgS nw som tat last T U) (hx : nw ≤ x) (hi : isT x) : AgS x (tkS som tat last T U x) (tkT som tat last T U x) (tkL som tat last T U x) T U := by
  obtain ⟨h1, h2, h3, h4⟩ := h
  refine ⟨h1.tk x, ?_, ?_⟩
  · unfold tkS tkT
    split
    · rename_i hc
      intro _
      obtain ⟨⟨t0, t1⟩, ⟨u0, u1⟩, ⟨a0, a1⟩, l0, l1⟩ := h1.1
      obtain ⟨x0, x1⟩ := hi
      cases som with
      | false => have := h1.2.1 rfl; omega
      | true =>
        have h5 := h2 rfl
        unfold checkE at hc
        split at hc
        · cases hc
        · split at hc
          · cases hc
          · split at hc
            · cases hc
            · rename_i he
              simp [earlyB] at he
              by_cases hT : 0 < T
              · have := he hT; omega
              · have := h1.2.2 (by omega)
                have hU : T = 0 := by omega
                omega
    · intro hs
      have := h2 hs
      omega
  · unfold tkL
    have := hi.1
    split <;> omega
theorem check_last {som : Bool} {tat la lb T U now : Int} (ha : la ≤ now) (hb : lb ≤ now) : checkE som tat la T U now = checkE som tat lb T U now := by
  unfold checkE
  rw [if_neg (c := som = true ∧ now < la) (by intro h; have := h.2; omega), if_neg (c := som = true ∧ now < lb) (by intro h; have := h.2; omega)]
theorem next_last {som : Bool} {tat la lb T U now : Int} (ha : la ≤ now) (hb : lb ≤ now) : nextI som tat la T U now = nextI som tat lb T U now := by
  unfold nextI
  rw [show max now la = now by omega, show max now lb = now by omega]
theorem tkS_last {som : Bool} {tat la lb T U now : Int} (ha : la ≤ now) (hb : lb ≤ now) : tkS som tat la T U now = tkS som tat lb T U now := by
  unfold tkS; rw [check_last ha hb]
theorem tkT_last {som : Bool} {tat la lb T U now : Int} (ha : la ≤ now) (hb : lb ≤ now) : tkT som tat la T U now = tkT som tat lb T U now := by
  unfold tkT; rw [check_last ha hb]
theorem tkL_le {som : Bool} {tat la T U now : Int} (ha : la ≤ now) : tkL som tat la T U now ≤ now := by
  unfold tkL; split <;> omega

set_option maxRecDepth 4000 in
set_option maxHeartbeats 8000000 in
theorem walk {w : World} (t : Int) (h0 : 0 ≤ t) (h1 : t ≤ 255) (u : Int) (u0 : 0 ≤ u) (u1 : u ≤ 255) (v : Value) (l : List Int) (hR : Rd w v (vI .u8 l)) (hl : ∀ x ∈ l, (Lit.int .u8 x).wf = true) (v' : Value) (l' : List Int) (hR' : Rd w v' (vI .u8 l')) (hl' : ∀ x ∈ l', (Lit.int .u8 x).wf = true) (z : Int) (z0 : 0 ≤ z) (z1 : z ≤ 255) :
    Calls Try.prog 13 #[.int .u8 t, .int .u8 u, v, v', .int .u8 z] w fun e w' => e = .returned (.bool true) ∧ G w w' := by
  have HS := Lib.hid hl
  have HS' := Lib.hid hl'
  have hv : validL (smT t) (smU t u) := small_valid h0 u0 u1
  have HO := Lib.hid (stepsOk l)
  have HO' := Lib.hid (stepsOk l')
  have HF : Hid (AgS 1000 false 0 0 (smT t) (smU t u)) := Lib.hid ⟨Fine.new hv, by simp, by omega, by omega⟩
  have HV := Lib.hid hv
  clear hv hl hl'
  go_enter Try.func13, Try.ntmps13
  go_wp2_with fail
  refine (small_any t u h0 h1 u0 u1 _).mono ?_
  rintro e w1 ⟨rfl, g1⟩
  clear h0 h1 u0 u1
  generalize smT t = T at *
  generalize smU t u = U at *
  go_wp2_with fail
  refine (new_yes T U HV.out _).mono ?_
  rintro e w3 ⟨kL, rfl, hkL, g3, hL⟩
  have hX3 := (Blk.new w1 24 #[.int .i64 T, .int .i64 U]).g g3
  have gW3 : G w w3 := g1.trans (((G.refl w1).alloc _).trans g3)
  have hkw : w.heap.size ≤ kL := by have := g1.size; simp at hkL; omega
  have hneX : w1.heap.size ≠ kL := by simp at hkL; omega
  generalize w1.heap.size = kX at *
  clear g1 g3 hkL w1
  go_wp2_with fail
  refine (steps_any v l HS.out _ (hR.g gW3)).mono ?_
  rintro e w4 ⟨ts, rfl, g4, own4⟩
  have hRd := Rd.of_own own4
  have own4' := own4.lt
  clear own4 HS hR
  generalize upA l 1000 0 64 (min l.length 60) = L at *
  obtain ⟨a, cap, rfl, hcap, hmx, hcell⟩ := hRd
  have HB := Lib.hid own4'
  rw [vI_len] at hcap
  rw [vI_len]
  have HC := Lib.hid hcell
  clear hcell own4'
  have hL4 := hL.g g4
  have hX4 : Blk w4 kX 24 #[.int .i64 T, .int .i64 U] := Blk.g hX3 g4
  have gW4 := gW3.trans g4
  have hLw := hL.lt
  clear hL gW3 g4
  go_wp2_with fail
  have HQ := Lib.hid (fun j (_ : 0 ≤ j) (hj : j < L.length) => (HO.out.2.1 j hj).1)
  go_loopw [14, 44] (fun nv iv wr => ∃ (k : Nat) (nw : Int) (som : Bool) (tat last : Int), k ≤ L.length ∧ nv = .int .i64 nw ∧ iv = .int .i64 k ∧ w4.grownBy wr (some kL) ∧ Lim wr kL som tat last T U ∧ Hid (AgS nw som tat last T U) ∧ (1000 ≤ nw ∧ nw ≤ 4840) ∧ Hid (∀ j, k ≤ j → j < L.length → nw ≤ at_ L j)) (fun _ iv _ => L.length - (intOf iv).toNat)
  case atStart => exact ⟨0, 1000, false, 0, 0, by omega, rfl, rfl, grown_of_G (G.refl _) _, hL4, HF, by omega, HQ⟩
  case round =>
    clear HF HQ
    obtain ⟨k, nw, som, tat, last, hk, rfl, rfl, hg, hLk, HFk, ⟨nw0, nw1⟩, HQ⟩ := hrel
    clear hL4
    have hl60 : L.length ≤ 60 := HO.out.1
    by_cases hlt : k < L.length
    · obtain ⟨b, o, rfl, hc⟩ := HC.out (by rw [vI_len]; omega)
      have d0 := at_vQ hc (k := k) (by omega)
      have d0 : wr.cell? ⟨b, o + k, none⟩ = some (.int .i64 (at_ L k)) := hg.cell d0 (by intro h; cases h; exact absurd hLw (Nat.not_lt.2 (HB.out b rfl).1))
      obtain ⟨m0, m1⟩ := HO.out.2.1 k hlt
      have HT := Lib.hid (HFk.out.tk (HQ.out k (Nat.le_refl _) hlt) ⟨by omega, by omega⟩)
      have HQ' : Hid (∀ j, k + 1 ≤ j → j < L.length → at_ L k ≤ at_ L j) := Lib.hid (fun j hj hj2 => mono_ HO.out (by omega) hj2)
      have hlk : (k : Int) < (L.length : Int) := by omega
      clear hc
      generalize at_ L k = x at *
      go_wp2_with fail
      refine (take_gen kL _ _ _ _ _ _ HFk.out.1.1 _ hLk).mono ?_
      rintro e w5 ⟨rfl, g5, hL5⟩
      go_wp2_with fail
      go_roundw
      case rel => exact ⟨k + 1, x, _, _, _, by omega, rfl, by go_num, grown_trans hg g5, hL5, HT, ⟨by omega, by omega⟩, HQ'⟩
      case measure => simp [intOf]; omega
    · obtain rfl : k = L.length := by omega
      have hX5 : Blk wr kX 24 #[.int .i64 T, .int .i64 U] := hX4.grown hg (fun e => hneX (Option.some.inj e))
      have gW5 : G w wr := gW4.own hg hkw
      clear hg hX4 HQ
      go_wp2_with fail
      refine (tat_any kL _ _ _ _ _ _ hLk).mono ?_
      rintro e w5 ⟨rfl, g5⟩
      have hX6 := hX5.g g5
      have hL6 := hLk.g g5
      have gW6 := gW5.trans g5
      have x0 : w5.cell? ⟨kX, 0, none⟩ = some (.int .i64 T) := hX6.cell 0
      have x1 : w5.cell? ⟨kX, 1, none⟩ = some (.int .i64 U) := hX6.cell 1
      clear hX5 hLk gW5 g5
      cases som with
      | true =>
        have hs := HFk.out.2.1 rfl
        have hT0 := HV.out.1.1
        go_wp2_with fail
        refine (restore_yes T U tat (nw + z) HV.out ⟨by omega, by omega⟩ (by omega) (by omega) _).mono ?_
        rintro e w6 ⟨kH, rfl, hkH, g6, hH⟩
        have hL7 := hL6.g g6
        have gW7 := gW6.trans g6
        have hneH : kL ≠ kH := by have := hL6.lt; omega
        have hwH : w.heap.size ≤ kH := Nat.le_trans gW6.size hkH
        have HFG : Hid (Fine true tat last T U) := Lib.hid HFk.out.1
        have HFH : Hid (Fine true tat (nw + z) T U) := Lib.hid ⟨⟨HFk.out.1.1.1, HFk.out.1.1.2.1, HFk.out.1.1.2.2.1, by omega, by omega⟩, HFk.out.1.2⟩
        have hll := HFk.out.2.2
        clear x0 x1 hX6 hL6 gW6 g6 hkH HFk
        go_wp2_with fail
        refine (steps_any v' l' HS'.out _ (hR'.g gW7)).mono ?_
        rintro e w8 ⟨ts', rfl, g8, own8⟩
        have hRd := Rd.of_own own8
        have own8' := own8.lt
        clear own8
        generalize upA l' 1000 0 64 (min l'.length 60) = L2 at *
        obtain ⟨a2, cap2, rfl, hcap2, hmx2, hcell2⟩ := hRd
        have HB2 := Lib.hid own8'
        rw [vI_len] at hcap2
        rw [vI_len]
        have HC2 := Lib.hid hcell2
        have HLT2 := Lib.hid (fun (h : 0 < (vI .i64 L2).length) => hcell2 h)
        clear hcell2 own8'
        have hL8 := hL7.g g8
        have hH8 := hH.g g8
        have gW8 := gW7.trans g8
        have hl60' : L2.length ≤ 60 := HO'.out.1
        have hLw7 := hL7.lt
        have hHw7 := hH.lt
        clear hL7 hH gW7 g8
        have HQ : Hid (∀ j, 0 ≤ j → j < L2.length → last ≤ nw + z + at_ L2 j - 1000 ∧ (nw + z) ≤ nw + z + at_ L2 j - 1000) := Lib.hid (fun j _ hj => by have := HO'.out.2.1 j hj; omega)
        have hnR : 1000 ≤ nw + z ∧ nw + z ≤ 5095 := by omega
        obtain ⟨nR0, nR1⟩ := hnR
        clear nw0 nw1 hll
        go_wp2_with fail
        generalize nw + z = nR at *
        go_loopw [80] (fun iv wr => ∃ (k : Nat) (som : Bool) (tat lg lh : Int), k ≤ L2.length ∧ iv = .int .i64 k ∧ G w wr ∧ Rd wr (.slice a2 L2.length cap2) (vI .i64 L2) ∧ (∀ r, a2 = some r → r.block ≠ kL ∧ r.block ≠ kH) ∧ Lim wr kL som tat lg T U ∧ Lim wr kH som tat lh T U ∧ Hid (Fine som tat lg T U) ∧ Hid (Fine som tat lh T U) ∧ Hid (∀ j, k ≤ j → j < L2.length → lg ≤ nR + at_ L2 j - 1000 ∧ lh ≤ nR + at_ L2 j - 1000)) (fun iv _ => L2.length - (intOf iv).toNat)
        case atStart => exact ⟨0, true, tat, last, nR, by omega, rfl, gW8, ⟨a2, cap2, by rw [vI_len], by rw [vI_len]; exact hcap2, hmx2, HC2.out⟩, (fun r e => by
          have := HB2.out r.block (by rw [e]; rfl)
          exact ⟨by omega, by omega⟩), hL8, hH8, HFG, HFH, HQ⟩
        case round =>
          clear gW8 hL8 hH8 HFG HFH HQ HB2 HC2 HLT2
          obtain ⟨k, som, tat, lg, lh, hk, rfl, hgq, hRq, hnb, hLq, hHq, HFG, HFH, HQ⟩ := hrel
          by_cases hlt : k < L2.length
          · obtain ⟨A2, cap3, hsl, -, -, hcell⟩ := hRq
            obtain ⟨b, o, rfl, hc⟩ := hcell (by rw [vI_len]; omega)
            simp only [Value.slice.injEq] at hsl
            obtain ⟨rfl, -, -⟩ := hsl
            have hRq : Rd wr (.slice (some ⟨b, o, none⟩) L2.length cap2) (vI .i64 L2) := ⟨_, cap2, by rw [vI_len], by rw [vI_len]; exact hcap2, hmx2, fun _ => ⟨b, o, rfl, hc⟩⟩
            have d0 := at_vI hc (k := k) hlt
            obtain ⟨m0, m1⟩ := HO'.out.2.1 k hlt
            obtain ⟨q0, q1⟩ := HQ.out k (Nat.le_refl _) hlt
            have HM : Hid (∀ j, k + 1 ≤ j → j < L2.length → nR + at_ L2 k - 1000 ≤ nR + at_ L2 j - 1000) := Lib.hid (fun j hj hj2 => by have := mono_ HO'.out (show k ≤ j by omega) hj2; omega)
            have hlk : (k : Int) < (L2.length : Int) := by omega
            clear hc hcell HQ
            generalize at_ L2 k = x at *
            have HTI : Hid (isT (nR + x - 1000)) := Lib.hid ⟨by omega, by omega⟩
            have HN := Lib.hid (next_last (som := som) (tat := tat) (T := T) (U := U) q1 q0)
            have HCK := Lib.hid (check_last (som := som) (tat := tat) (T := T) (U := U) q1 q0)
            have HTS := Lib.hid (tkS_last (som := som) (tat := tat) (T := T) (U := U) q1 q0)
            have HTT := Lib.hid (tkT_last (som := som) (tat := tat) (T := T) (U := U) q1 q0)
            have hl1 := tkL_le (som := som) (tat := tat) (T := T) (U := U) q0
            have hl2 := tkL_le (som := som) (tat := tat) (T := T) (U := U) q1
            have HQ : Hid (∀ j, k + 1 ≤ j → j < L2.length → tkL som tat lg T U (nR + x - 1000) ≤ nR + at_ L2 j - 1000 ∧ tkL som tat lh T U (nR + x - 1000) ≤ nR + at_ L2 j - 1000) := Lib.hid (fun j hj hj2 => by have := HM.out j hj hj2; omega)
            have HFG2 := Lib.hid (HFG.out.tk (nR + x - 1000))
            have HFH2 : Hid (Fine (tkS som tat lg T U (nR + x - 1000)) (tkT som tat lg T U (nR + x - 1000)) (tkL som tat lh T U (nR + x - 1000)) T U) := Lib.hid (by have := HFH.out.tk (nR + x - 1000); rw [HTS.out, HTT.out] at this; exact this)
            clear hl1 hl2 HM
            go_wp2_with fail
            refine (next_any kL _ _ _ _ _ (nR + x - 1000) HFG.out.1 HTI.out _ hLq).mono ?_
            rintro e v1 ⟨rfl, g1⟩
            go_wp2_with fail
            refine (next_any kH _ _ _ _ _ (nR + x - 1000) HFH.out.1 HTI.out _ (hHq.g g1)).mono ?_
            rintro e v2 ⟨rfl, g2⟩
            rw [HN.out]
            generalize nextI som tat lg T U (nR + x - 1000) = N at *
            have g12 := g1.trans g2
            clear g1 g2 HN
            go_wp2_with fail
            refine (allows_any kL _ _ _ _ _ (nR + x - 1000) HFG.out.1 _ (hLq.g g12)).mono ?_
            rintro e v3 ⟨rfl, g3⟩
            have g13 := g12.trans g3
            clear g12 g3
            go_wp2_with fail
            refine (allows_any kH _ _ _ _ _ (nR + x - 1000) HFH.out.1 _ (hHq.g g13)).mono ?_
            rintro e v4 ⟨rfl, g4⟩
            rw [HCK.out]
            have g14 := g13.trans g4
            clear g13 g4
            go_wp2_with fail
            refine (take_gen kL _ _ _ _ _ (nR + x - 1000) HFG.out.1 _ (hLq.g g14)).mono ?_
            rintro e v5 ⟨rfl, g5, hL5⟩
            have hH5 := (hHq.g g14).grown g5 (fun e => hneH (Option.some.inj e).symm)
            have hR5 := (hRq.g g14).grown g5 (fun e => (hnb _ rfl).1 (by simpa [Value.ownBlock] using e))
            have hg5 := (hgq.trans g14).own g5 hkw
            clear hLq hHq hRq hgq g14 g5 d0
            go_wp2_with fail
            refine (take_gen kH _ _ _ _ _ (nR + x - 1000) HFH.out.1 _ hH5).mono ?_
            rintro e v6 ⟨rfl, g6, hH6⟩
            rw [HCK.out]
            rw [HTS.out, HTT.out] at hH6
            have hL6 := hL5.grown g6 (fun e => hneH (Option.some.inj e))
            have hR6 := hR5.grown g6 (fun e => (hnb _ rfl).2 (by simpa [Value.ownBlock] using e))
            have hg6 := hg5.own g6 hwH
            clear hL5 hH5 hR5 hg5 g6 HCK HTS HTT HFG HFH
            generalize checkE som tat lg T U (nR + x - 1000) = ce at *
            generalize tkS som tat lg T U (nR + x - 1000) = som' at *
            generalize tkT som tat lg T U (nR + x - 1000) = tat' at *
            go_wp2_with fail
            refine (tat_any kL _ _ _ _ _ _ hL6).mono ?_
            rintro e v7 ⟨rfl, g7⟩
            go_wp2_with fail
            refine (tat_any kH _ _ _ _ _ _ (hH6.g g7)).mono ?_
            rintro e v8 ⟨rfl, g8⟩
            have g78 := g7.trans g8
            clear g7 g8
            go_wp2_with fail
            go_roundw
            case rel => exact ⟨k + 1, som', tat', _, _, by omega, by go_num, hg6.trans g78, hR6.g g78, hnb, hL6.g g78, hH6.g g78, HFG2, HFH2, HQ⟩
            case measure => simp [intOf]; omega
          · obtain rfl : k = L2.length := by omega
            go_wp2_with fail
            refine (works_any _).mono ?_
            rintro e v9 ⟨rfl, g9⟩
            go_wp2_with fail
            go_ret
            exact ⟨rfl, hgq.trans g9⟩
      | false =>
        have htz := HFk.out.1.2.1 rfl
        go_wp2_with fail
        refine (restore_new T U (-1) (nw + z) HV.out ⟨by omega, by omega⟩ rfl _).mono ?_
        rintro e w6 ⟨kH, rfl, hkH, g6, hH⟩
        have hL7 := hL6.g g6
        have gW7 := gW6.trans g6
        have hneH : kL ≠ kH := by have := hL6.lt; omega
        have hwH : w.heap.size ≤ kH := Nat.le_trans gW6.size hkH
        have HFG : Hid (Fine false tat last T U) := Lib.hid HFk.out.1
        have HFH : Hid (Fine false tat 0 T U) := Lib.hid ⟨⟨HFk.out.1.1.1, HFk.out.1.1.2.1, HFk.out.1.1.2.2.1, by omega, by omega⟩, HFk.out.1.2⟩
        have hll := HFk.out.2.2
        subst htz
        clear x0 x1 hX6 hL6 gW6 g6 hkH HFk
        go_wp2_with fail
        refine (steps_any v' l' HS'.out _ (hR'.g gW7)).mono ?_
        rintro e w8 ⟨ts', rfl, g8, own8⟩
        have hRd := Rd.of_own own8
        have own8' := own8.lt
        clear own8
        generalize upA l' 1000 0 64 (min l'.length 60) = L2 at *
        obtain ⟨a2, cap2, rfl, hcap2, hmx2, hcell2⟩ := hRd
        have HB2 := Lib.hid own8'
        rw [vI_len] at hcap2
        rw [vI_len]
        have HC2 := Lib.hid hcell2
        have HLT2 := Lib.hid (fun (h : 0 < (vI .i64 L2).length) => hcell2 h)
        clear hcell2 own8'
        have hL8 := hL7.g g8
        have hH8 := hH.g g8
        have gW8 := gW7.trans g8
        have hl60' : L2.length ≤ 60 := HO'.out.1
        have hLw7 := hL7.lt
        have hHw7 := hH.lt
        clear hL7 hH gW7 g8
        have HQ : Hid (∀ j, 0 ≤ j → j < L2.length → last ≤ nw + z + at_ L2 j - 1000 ∧ 0 ≤ nw + z + at_ L2 j - 1000) := Lib.hid (fun j _ hj => by have := HO'.out.2.1 j hj; omega)
        have hnR : 1000 ≤ nw + z ∧ nw + z ≤ 5095 := by omega
        obtain ⟨nR0, nR1⟩ := hnR
        clear nw0 nw1 hll
        go_wp2_with fail
        generalize nw + z = nR at *
        go_loopw [80] (fun iv wr => ∃ (k : Nat) (som : Bool) (tat lg lh : Int), k ≤ L2.length ∧ iv = .int .i64 k ∧ G w wr ∧ Rd wr (.slice a2 L2.length cap2) (vI .i64 L2) ∧ (∀ r, a2 = some r → r.block ≠ kL ∧ r.block ≠ kH) ∧ Lim wr kL som tat lg T U ∧ Lim wr kH som tat lh T U ∧ Hid (Fine som tat lg T U) ∧ Hid (Fine som tat lh T U) ∧ Hid (∀ j, k ≤ j → j < L2.length → lg ≤ nR + at_ L2 j - 1000 ∧ lh ≤ nR + at_ L2 j - 1000)) (fun iv _ => L2.length - (intOf iv).toNat)
        case atStart => exact ⟨0, false, 0, last, 0, by omega, rfl, gW8, ⟨a2, cap2, by rw [vI_len], by rw [vI_len]; exact hcap2, hmx2, HC2.out⟩, (fun r e => by
          have := HB2.out r.block (by rw [e]; rfl)
          exact ⟨by omega, by omega⟩), hL8, hH8, HFG, HFH, HQ⟩
        case round =>
          clear gW8 hL8 hH8 HFG HFH HQ HB2 HC2 HLT2
          obtain ⟨k, som, tat, lg, lh, hk, rfl, hgq, hRq, hnb, hLq, hHq, HFG, HFH, HQ⟩ := hrel
          by_cases hlt : k < L2.length
          · obtain ⟨A2, cap3, hsl, -, -, hcell⟩ := hRq
            obtain ⟨b, o, rfl, hc⟩ := hcell (by rw [vI_len]; omega)
            simp only [Value.slice.injEq] at hsl
            obtain ⟨rfl, -, -⟩ := hsl
            have hRq : Rd wr (.slice (some ⟨b, o, none⟩) L2.length cap2) (vI .i64 L2) := ⟨_, cap2, by rw [vI_len], by rw [vI_len]; exact hcap2, hmx2, fun _ => ⟨b, o, rfl, hc⟩⟩
            have d0 := at_vI hc (k := k) hlt
            obtain ⟨m0, m1⟩ := HO'.out.2.1 k hlt
            obtain ⟨q0, q1⟩ := HQ.out k (Nat.le_refl _) hlt
            have HM : Hid (∀ j, k + 1 ≤ j → j < L2.length → nR + at_ L2 k - 1000 ≤ nR + at_ L2 j - 1000) := Lib.hid (fun j hj hj2 => by have := mono_ HO'.out (show k ≤ j by omega) hj2; omega)
            have hlk : (k : Int) < (L2.length : Int) := by omega
            clear hc hcell HQ
            generalize at_ L2 k = x at *
            have HTI : Hid (isT (nR + x - 1000)) := Lib.hid ⟨by omega, by omega⟩
            have HN := Lib.hid (next_last (som := som) (tat := tat) (T := T) (U := U) q1 q0)
            have HCK := Lib.hid (check_last (som := som) (tat := tat) (T := T) (U := U) q1 q0)
            have HTS := Lib.hid (tkS_last (som := som) (tat := tat) (T := T) (U := U) q1 q0)
            have HTT := Lib.hid (tkT_last (som := som) (tat := tat) (T := T) (U := U) q1 q0)
            have hl1 := tkL_le (som := som) (tat := tat) (T := T) (U := U) q0
            have hl2 := tkL_le (som := som) (tat := tat) (T := T) (U := U) q1
            have HQ : Hid (∀ j, k + 1 ≤ j → j < L2.length → tkL som tat lg T U (nR + x - 1000) ≤ nR + at_ L2 j - 1000 ∧ tkL som tat lh T U (nR + x - 1000) ≤ nR + at_ L2 j - 1000) := Lib.hid (fun j hj hj2 => by have := HM.out j hj hj2; omega)
            have HFG2 := Lib.hid (HFG.out.tk (nR + x - 1000))
            have HFH2 : Hid (Fine (tkS som tat lg T U (nR + x - 1000)) (tkT som tat lg T U (nR + x - 1000)) (tkL som tat lh T U (nR + x - 1000)) T U) := Lib.hid (by have := HFH.out.tk (nR + x - 1000); rw [HTS.out, HTT.out] at this; exact this)
            clear hl1 hl2 HM
            go_wp2_with fail
            refine (next_any kL _ _ _ _ _ (nR + x - 1000) HFG.out.1 HTI.out _ hLq).mono ?_
            rintro e v1 ⟨rfl, g1⟩
            go_wp2_with fail
            refine (next_any kH _ _ _ _ _ (nR + x - 1000) HFH.out.1 HTI.out _ (hHq.g g1)).mono ?_
            rintro e v2 ⟨rfl, g2⟩
            rw [HN.out]
            generalize nextI som tat lg T U (nR + x - 1000) = N at *
            have g12 := g1.trans g2
            clear g1 g2 HN
            go_wp2_with fail
            refine (allows_any kL _ _ _ _ _ (nR + x - 1000) HFG.out.1 _ (hLq.g g12)).mono ?_
            rintro e v3 ⟨rfl, g3⟩
            have g13 := g12.trans g3
            clear g12 g3
            go_wp2_with fail
            refine (allows_any kH _ _ _ _ _ (nR + x - 1000) HFH.out.1 _ (hHq.g g13)).mono ?_
            rintro e v4 ⟨rfl, g4⟩
            rw [HCK.out]
            have g14 := g13.trans g4
            clear g13 g4
            go_wp2_with fail
            refine (take_gen kL _ _ _ _ _ (nR + x - 1000) HFG.out.1 _ (hLq.g g14)).mono ?_
            rintro e v5 ⟨rfl, g5, hL5⟩
            have hH5 := (hHq.g g14).grown g5 (fun e => hneH (Option.some.inj e).symm)
            have hR5 := (hRq.g g14).grown g5 (fun e => (hnb _ rfl).1 (by simpa [Value.ownBlock] using e))
            have hg5 := (hgq.trans g14).own g5 hkw
            clear hLq hHq hRq hgq g14 g5 d0
            go_wp2_with fail
            refine (take_gen kH _ _ _ _ _ (nR + x - 1000) HFH.out.1 _ hH5).mono ?_
            rintro e v6 ⟨rfl, g6, hH6⟩
            rw [HCK.out]
            rw [HTS.out, HTT.out] at hH6
            have hL6 := hL5.grown g6 (fun e => hneH (Option.some.inj e))
            have hR6 := hR5.grown g6 (fun e => (hnb _ rfl).2 (by simpa [Value.ownBlock] using e))
            have hg6 := hg5.own g6 hwH
            clear hL5 hH5 hR5 hg5 g6 HCK HTS HTT HFG HFH
            generalize checkE som tat lg T U (nR + x - 1000) = ce at *
            generalize tkS som tat lg T U (nR + x - 1000) = som' at *
            generalize tkT som tat lg T U (nR + x - 1000) = tat' at *
            go_wp2_with fail
            refine (tat_any kL _ _ _ _ _ _ hL6).mono ?_
            rintro e v7 ⟨rfl, g7⟩
            go_wp2_with fail
            refine (tat_any kH _ _ _ _ _ _ (hH6.g g7)).mono ?_
            rintro e v8 ⟨rfl, g8⟩
            have g78 := g7.trans g8
            clear g7 g8
            go_wp2_with fail
            go_roundw
            case rel => exact ⟨k + 1, som', tat', _, _, by omega, by go_num, hg6.trans g78, hR6.g g78, hnb, hL6.g g78, hH6.g g78, HFG2, HFH2, HQ⟩
            case measure => simp [intOf]; omega
          · obtain rfl : k = L2.length := by omega
            go_wp2_with fail
            refine (works_any _).mono ?_
            rintro e v9 ⟨rfl, g9⟩
            go_wp2_with fail
            go_ret
            exact ⟨rfl, hgq.trans g9⟩

set_option maxHeartbeats 2000000 in
theorem contract (H : Type) (enc : TypeId × Value → H) (W : World) (base : Nat) (args : Array Value) (ds gs : List (DataW H)) (before : List MemPlace)
    (hval : ∀ (j : Nat) t v, Try.f13.params[j]? = some t → args[j]? = some v → Value.okWide Try.prog W .any base t v)
    (hW : DataW.Whole enc Try.prog Try.f13.params.toList Rows.gcraAgainSpec.vars false W args.toList ds gs before) :
    Calls Try.prog 13 args W fun e W' => ∃ v, e = .returned v ∧ Rows.gcraAgainSpec.post enc Try.prog Try.f13 false true false false W args v W' := by
  have hW' := hW
  obtain ⟨p, q, hA0, hV, rfl, hfz, hnd⟩ := hW
  have hA : DataW.TrodAll enc Try.prog W 0 (fun _ => true) true Try.f13.params.toList args.toList ds p := hA0
  rw [Try.params13] at hA hval
  obtain ⟨v0, vs0, d0, ds0, p0, q0, hargs, rfl, rfl, h0, r0⟩ := trodAll_cons hA
  obtain ⟨v1, vs1, d1, ds1, p1, q1, rfl, rfl, rfl, h1, r1⟩ := trodAll_cons r0
  obtain ⟨v2, vs2, d2, ds2, p2, q2, rfl, rfl, rfl, h2, r2⟩ := trodAll_cons r1
  obtain ⟨v3, vs3, d3, ds3, p3, q3, rfl, rfl, rfl, h3, r3⟩ := trodAll_cons r2
  obtain ⟨v4, vs4, d4, ds4, p4, q4, rfl, rfl, rfl, h4, r4⟩ := trodAll_cons r3
  obtain ⟨rfl, rfl, rfl⟩ := trodAll_nil r4
  obtain rfl : args = #[v0, v1, v2, v3, v4] := by cases args; simp_all
  obtain ⟨a0, rfl, rfl, rfl, w0⟩ := open_int Try.underlying5 (hval 0 5 v0 rfl rfl) h0
  simp [Lit.wf, IntKind.min, IntKind.max, IntKind.bits, IntKind.signed] at w0
  obtain ⟨a1, rfl, rfl, rfl, w1⟩ := open_int Try.underlying5 (hval 1 5 v1 rfl rfl) h1
  simp [Lit.wf, IntKind.min, IntKind.max, IntKind.bits, IntKind.signed] at w1
  obtain ⟨l2, R2, B2⟩ := open_list (k := .u8) Try.underlying22 Try.underlying5 (by kernel_rfl) (hval 2 22 v2 rfl rfl) h2
  obtain ⟨l3, R3, B3⟩ := open_list (k := .u8) Try.underlying22 Try.underlying5 (by kernel_rfl) (hval 3 22 v3 rfl rfl) h3
  obtain ⟨a4, rfl, rfl, rfl, w4⟩ := open_int Try.underlying5 (hval 4 5 v4 rfl rfl) h4
  simp [Lit.wf, IntKind.min, IntKind.max, IntKind.bits, IntKind.signed] at w4
  refine (walk (w := W) a0 (by omega) (by omega) a1 (by omega) (by omega) v2 l2 R2 B2 v3 l3 R3 B3 a4 (by omega) (by omega)).mono fun e W' ⟨he, hg⟩ => ?_
  subst he
  exact ⟨_, rfl, law_post laidOut_ (by
    intro t ht
    rw [Try.params13] at ht
    simp at ht
    rcases ht with rfl | rfl | rfl <;> exact ⟨by kernel_rfl, by decide +kernel⟩) hW' rfl rfl (by kernel_rfl) Try.underlying4 hg⟩
set_option maxRecDepth 100000 in
theorem lifted (os : Os) (started : os.Started) (H : Type) (enc : TypeId × Value → H) :
    ReturnsInHanded {} Try.checked os 13 .any (Rows.gcraAgainSpec.pre6 enc Try.prog Try.f13 Rows.gcraAgainRow.domain false) (Rows.gcraAgainSpec.post enc Try.prog Try.f13 false true false false) := by
  refine returnsInHanded_of_change (C := Try.checked) own_ started (by kernel_rfl) Try.func13
    (ChangeSpec.witness6 (enc := enc) (C := Try.checked) false ⟨#[], #[.int .u8 0, .int .u8 0, .slice none 0 0, .slice none 0 0, .int .u8 0], []⟩ 8 (by kernel_rfl) (by kernel_rfl) (by kernel_rfl) (by kernel_rfl)) ?_
  intro W base args ds gs before hval hW _ _
  exact contract H enc W base args ds gs before hval hW
theorem said : Rows.GcraAgainSaid :=
  OpenClaim.holds_of_wide 13 Try.f13 rfl rfl rfl rfl rfl rfl rfl ⟨rfl, rfl, rfl, rfl, rfl⟩ rfl rfl rfl rfl rfl (by kernel_rfl) Try.func13 (by kernel_rfl)
    (of_decide_eq_true (by kernel_rfl)) (by unfold Func.isWrapper; first | (rw [if_pos (by decide +kernel)]; kernel_rfl) | (rw [if_neg (by decide +kernel)]; exact ⟨rfl, rfl⟩))
    (fun os started H enc _ => lifted os started H enc)
#print axioms said
end Go.Proofs.Ytgookddningjpaa.lawGcraAgain
