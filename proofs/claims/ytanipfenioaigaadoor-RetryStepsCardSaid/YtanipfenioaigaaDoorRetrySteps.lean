/-
  RetrySteps: each time of a chain but the first one is what Next returns for the attempt before it, when this one ends.
  Conditions: none beyond the row's own (the table of package mix as the program's text lays it).
-/
import Derived.Test.YtanipfenioaigaaDoorTieD
import Derived.Test.YtanipfenioaigaaDoorRtZ
import Derived.Deep.RegionHeld3
set_option linter.unusedVariables false
set_option linter.unusedSimpArgs false
namespace Go.Proofs.YtanipfenioaigaaDoor.lawRetrySteps
open Go.ChangeShapes Go.WideShapes Go.ChangeAt Go.RowKit
theorem Rd.at_ {w : World} {A : Option Addr} {n c : Nat} {xs : List Value} (h : Rd w (.slice A n c) xs) (hn : 0 < xs.length) : ∃ b o, A = some ⟨b, o, none⟩ ∧ ∀ j u, xs[j]? = some u → w.cell? ⟨b, o + j, none⟩ = some u := by
  obtain ⟨A', c', e, _, _, h2⟩ := h
  cases e
  exact h2 hn
theorem tAt_bd2 {M B C J : Int} (a : Int) (s : ByteArray) (d first : Int) (l : List Int) (hok : okR M B C J) (hC : C ≤ 131071) (hJ : J ≤ 65535) (f0 : 0 ≤ first) (f1 : first ≤ 4294967295) (hl : ∀ x ∈ l, 0 ≤ x ∧ x ≤ 65535) (k : Nat) : tAt M B C J a s d first l k ≤ 4294967295 + k * 262142 := by
  induction k with
  | zero => simp only [tAt]; omega
  | succ k ih =>
    have h1 := aft_small a s d ((k : Int) + 1) hok hC hJ
    have h2 : 0 ≤ l[k]?.getD 0 ∧ l[k]?.getD 0 ≤ 65535 := by
      rcases Nat.lt_or_ge k l.length with h | h
      · rw [List.getElem?_eq_getElem h]
        exact hl _ (List.getElem_mem h)
      · rw [List.getElem?_eq_none h]
        simp
    simp only [tAt]
    omega
set_option maxRecDepth 20000 in
set_option maxHeartbeats 16000000 in
theorem walk (w : World) (a b c e : Int) (ra : 0 ≤ a ∧ a ≤ 255) (rb : 0 ≤ b ∧ b ≤ 65535) (rc : 0 ≤ c ∧ c ≤ 65535) (re : 0 ≤ e ∧ e ≤ 65535) (s : Int) (s0 : 0 ≤ s) (s1 : s ≤ 18446744073709551615) (f : Int) (f0 : 0 ≤ f) (f1 : f ≤ 4294967295) (v : Value) (l : List Int) (R : Rd w v (vI .u16 l)) (hwf : ∀ x ∈ l, (Lit.int .u16 x).wf = true) (hT : Tab w) :
    Calls Tryd.prog 7 #[.agg #[.int .u8 a, .int .u16 b, .int .u16 c, .int .u16 e], .int .u64 s, .int .u32 f, v] w fun e w' => e = .returned (.bool true) ∧ G w w' := by
  have HT := Lib.hid hT
  obtain ⟨M, B, C, J, hok, ⟨m0', m1⟩, ⟨j0, j1⟩, ⟨cc0, cc1⟩, hmd⟩ := made_ex2 a b c e ra rb rc re
  obtain ⟨m0, rfl⟩ : ∃ m : Nat, M = m := ⟨M.toNat, by omega⟩
  have HMd := Lib.hid hmd
  have HOK := Lib.hid hok
  have u1 : u64 s := ⟨s0, by omega⟩
  have HSP : Hid (∀ x ∈ l, 0 ≤ x ∧ x ≤ 65535) := Lib.hid (fun x hx => by
    have := hwf x hx
    simp [Lit.wf, IntKind.min, IntKind.max, IntKind.bits, IntKind.signed] at this
    omega)
  clear hT hmd hwf hok
  obtain ⟨i0, hi, hz0, hz1, hz2⟩ := info_parts info_i64r
  obtain ⟨A, c, rfl, hc, hcm, hd⟩ := R
  rw [vI_len] at hc hd ⊢
  rcases Nat.lt_or_ge m0 l.length with hm | hm
  · have hmi : (m0 : Int) < l.length := by omega
    go_enter Tryd.func7, Tryd.ntmps7
    go_wp2_with fail
    go_at_call 27
    refine (HMd.out _).mono ?_
    rintro e0 w1 ⟨rfl, g1⟩
    have bR := Blk.new w1 23 #[.int .i64 m0, .int .i64 B, .int .i64 C, .int .i64 J]
    have gA : G w (w1.alloc (.cells #[.int .i64 m0, .int .i64 B, .int .i64 C, .int .i64 J] 23)) := (((G.refl w).alloc _).trans g1).alloc _
    clear g1
    have c0 : (w1.alloc (.cells #[.int .i64 m0, .int .i64 B, .int .i64 C, .int .i64 J] 23)).cell? ⟨w1.heap.size, 0, none⟩ = some (.int .i64 m0) := bR.cell 0
    have c1 : (w1.alloc (.cells #[.int .i64 m0, .int .i64 B, .int .i64 C, .int .i64 J] 23)).cell? ⟨w1.heap.size, 1, none⟩ = some (.int .i64 B) := bR.cell 1
    have c2 : (w1.alloc (.cells #[.int .i64 m0, .int .i64 B, .int .i64 C, .int .i64 J] 23)).cell? ⟨w1.heap.size, 2, none⟩ = some (.int .i64 C) := bR.cell 2
    have c3 : (w1.alloc (.cells #[.int .i64 m0, .int .i64 B, .int .i64 C, .int .i64 J] 23)).cell? ⟨w1.heap.size, 3, none⟩ = some (.int .i64 J) := bR.cell 3
    go_wp2_with fail
    generalize w1.alloc (.cells #[.int .i64 m0, .int .i64 B, .int .i64 C, .int .i64 J] 23) = w2 at *
    generalize w1.heap.size = kR at *
    obtain ⟨n, hn⟩ : ∃ n, w2.heap.size = n := ⟨_, rfl⟩
    go_loopw [10, 30] (fun ov kv wr => ∃ k : Nat, k ≤ m0 ∧ kv = .int .i64 k ∧ G w2 wr ∧ wr.ownsRow n 2 1 ov k (vI .i64 (l.take k))) (fun _ kv _ => m0 - (intOf kv).toNat)
    case atStart => exact ⟨0, by omega, rfl, G.refl _, World.ownsRow_nil _ _ _ _⟩
    case round =>
      obtain ⟨k, hk, rfl, hg, hown⟩ := hrel
      by_cases hlt : k < m0
      · have hki : (k : Int) < m0 := by omega
        have hkl : k < l.length := by omega
        obtain ⟨b1, o1, rfl, c1⟩ := hd (by omega)
        have e1 := c1 k _ (vI_get hkl)
        have f1 := (gA.trans hg).cell (World.block_lt_of_cell? w _ e1) e1
        clear c1 e1
        have HU : Hid (l.take (k + 1) = l.take k ++ [l[k]?.getD 0]) := Lib.hid (by rw [List.take_add_one, List.getElem?_eq_getElem hkl]; rfl)
        have hx := HSP.out (l[k]?.getD 0) (by rw [List.getElem?_eq_getElem hkl]; exact List.getElem_mem hkl)
        obtain ⟨x0, x1⟩ := hx
        generalize l[k]?.getD 0 = x at *
        have hk20 : k ≤ 20 := by omega
        have hns : n ≤ wr.heap.size := by have := hg.size; omega
        go_wp2_with (at_builtin; refine wpList_append_own _ rfl _ _ 27 rfl n 2 i0 (.int .i64 0) 1 8 Tryd.underlying27 hi hz0 hz1 hz2 rfl (by decide) _ _ _ rfl (hown.alloc _) ⟨wr.heap.size, 0, none⟩ 1 1 [.int .i64 x] rfl rfl (cell_one_new _ _ _) (by simp [Value.oneCell']) (by unfold maxLen; omega) (by omega) (by simp; omega) ?_; intro v' w3 hown' hgrow _)
        have hg3 : G w2 w3 := (hg.alloc _).grown hgrow (fun r e => by have := (hown.lt r e).1; omega)
        rw [vI_app_, ← HU.out] at hown'
        go_wp2_with fail
        go_roundw
        case rel => exact ⟨k + 1, by omega, by go_num, hg3, hown'⟩
        case measure => simp [intOf]; omega
      · obtain rfl : m0 = k := by omega
        obtain ⟨L, hL⟩ : ∃ L, L = l.take m0 := ⟨_, rfl⟩
        have hLn : L.length = m0 := by rw [hL]; rw [List.length_take]; omega
        have hLS : ∀ x ∈ L, 0 ≤ x ∧ x ≤ 65535 := fun x hx => HSP.out x (by rw [hL] at hx; exact List.mem_of_mem_take hx)
        rw [← hL] at hown
        replace bR := bR.g hg
        replace gA := gA.trans hg
        have rL := Rd.of_own hown
        clear hown c0 c1 c2 c3 hL hd hg
        obtain ⟨A2, cc, rfl, hcc, hccm, hd2⟩ := id rL
        rw [vI_len, hLn] at rL hcc hd2 ⊢
        have c0 : wr.cell? ⟨kR, 0, none⟩ = some (.int .i64 m0) := bR.cell 0
        have c1 : wr.cell? ⟨kR, 1, none⟩ = some (.int .i64 B) := bR.cell 1
        have c2 : wr.cell? ⟨kR, 2, none⟩ = some (.int .i64 C) := bR.cell 2
        have c3 : wr.cell? ⟨kR, 3, none⟩ = some (.int .i64 J) := bR.cell 3
        have hk20 : m0 ≤ 20 := by omega
        have hLsp : ∀ x ∈ L, spB x := fun x hx => by have := hLS x hx; unfold spB; omega
        have hrt : rtE m0 B C J ⟨#[106]⟩ 5 f = 0 := by unfold rtE; rw [if_pos HOK.out, if_pos (by decide +kernel), if_pos ⟨by decide, by unfold tmB; omega⟩]
        have HE : Hid (chE m0 B C J ⟨#[106]⟩ 5 f L = 0) := Lib.hid (by unfold chE; rw [if_pos hrt, if_pos (by omega), if_pos hLsp])
        have HL : Hid (chL m0 B C J s ⟨#[106]⟩ 5 f L = (List.range (m0 + 1)).map (tAt m0 B C J s ⟨#[106]⟩ 5 f L)) := Lib.hid ((if_pos HE.out).trans (by rw [hLn]))
        have HTB := Lib.hid (tAt_bd (M := m0) (B := B) (C := C) (J := J) (a := s) (s := ⟨#[106]⟩) (d := 5) (first := f) (by unfold tmB; omega) hLsp)
        have HLS := Lib.hid hLS
        have HLn := Lib.hid hLn
        have HRt := Lib.hid hrt
        clear hrt hLS hLsp hd2
        go_wp2_with fail
        go_at_call 14
        refine (chain_any m0 B C J s _ 5 f _ L u1 (by rw [HLn.out]; omega) _ (by rw [← HLn.out] at rL; rw [HLn.out] at rL; exact rL) (HT.out.g gA)).mono ?_
        rintro e0 w3 ⟨vO, rfl, rO, gx⟩
        rw [HE.out]
        rw [HL.out] at rO
        replace gA := gA.trans gx
        replace bR := bR.g gx
        replace rL := rL.g gx
        clear c0 c1 c2 c3 gx
        obtain ⟨A3, c3', rfl, hc3, hcm3, hdO⟩ := id rO
        rw [show (vI .i64 ((List.range (m0 + 1)).map (tAt m0 B C J s ⟨#[106]⟩ 5 f L))).length = m0 + 1 by simp [vI]] at hc3 hdO rO ⊢
        obtain ⟨bO, oO, rfl, dO⟩ := hdO (by omega)
        have cO0 : w3.cell? ⟨bO, oO, none⟩ = some (.int .i64 f) := dO 0 _ (tAt_get _ 0 (m0 + 1) (by omega))
        go_wp2_with fail
        clear cO0
        go_loopw [69] (fun iv wr => ∃ i : Nat, i ≤ m0 ∧ iv = .int .i64 i ∧ G w3 wr) (fun iv _ => m0 - (intOf iv).toNat)
        case atStart => exact ⟨0, by omega, rfl, G.refl _⟩
        case round =>
          obtain ⟨i, hi2, rfl, hg⟩ := hrel
          by_cases hlt : i < m0
          · obtain ⟨bL, oL, rfl, dL⟩ := Rd.at_ rL (by rw [vI_len, HLn.out]; omega)
            have hiL : i < L.length := by rw [HLn.out]; exact hlt
            have cL := (G.cell hg (World.block_lt_of_cell? w3 _ (dL i _ (vI_get hiL))) (dL i _ (vI_get hiL)))
            have cO := (G.cell hg (World.block_lt_of_cell? w3 _ (dO i _ (tAt_get _ i (m0 + 1) (by omega)))) (dO i _ (tAt_get _ i (m0 + 1) (by omega))))
            have cO1 := (G.cell hg (World.block_lt_of_cell? w3 _ (dO (i + 1) _ (tAt_get _ (i + 1) (m0 + 1) (by omega)))) (dO (i + 1) _ (tAt_get _ (i + 1) (m0 + 1) (by omega))))
            have hbR := bR.g hg
            have hT : Tab wr.drew := HT.out.g (gA.trans hg).drew
            have gD : G wr wr.drew := (G.refl wr).drew
            have hx : 0 ≤ L[i]?.getD 0 ∧ L[i]?.getD 0 ≤ 65535 := by
              rw [List.getElem?_eq_getElem hiL]
              exact HLS.out _ (List.getElem_mem hiL)
            obtain ⟨x0, x1⟩ := hx
            obtain ⟨t0, t1⟩ := HTB.out i
            have t2 : tAt m0 B C J s ⟨#[106]⟩ 5 f L i ≤ 253402300799 - 100000 := by
              have := tAt_bd2 s ⟨#[106]⟩ 5 f L HOK.out cc1 j1 f0 f1 HLS.out i
              omega
            clear t1
            have hrt2 : rtE m0 B C J ⟨#[106]⟩ 5 (tAt m0 B C J s ⟨#[106]⟩ 5 f L i + L[i]?.getD 0) = 0 := by unfold rtE; rw [if_pos HOK.out, if_pos (by decide +kernel), if_pos ⟨by decide, by unfold tmB; omega⟩]
            have HNE : Hid (nxE m0 B C J ⟨#[106]⟩ 5 ((i : Int) + 1) (tAt m0 B C J s ⟨#[106]⟩ 5 f L i + L[i]?.getD 0) = 0) := Lib.hid ((if_pos hrt2).trans (by unfold lfE; rw [if_pos HOK.out, if_pos (by omega)]))
            have HNB : Hid (nxB m0 B C J ⟨#[106]⟩ 5 ((i : Int) + 1) (tAt m0 B C J s ⟨#[106]⟩ 5 f L i + L[i]?.getD 0) = true) := Lib.hid (decide_eq_true ⟨HNE.out, by omega⟩)
            have HNV : Hid (nxV m0 B C J s ⟨#[106]⟩ 5 ((i : Int) + 1) (tAt m0 B C J s ⟨#[106]⟩ 5 f L i + L[i]?.getD 0) = tAt m0 B C J s ⟨#[106]⟩ 5 f L (i + 1)) := Lib.hid ((if_pos HNB.out).trans (by rw [tAt, Int.add_assoc]))
            clear hrt2
            have HNX := Lib.hid (fun w h => next_any m0 B C J s ⟨#[106]⟩ 5 ((i : Int) + 1) (tAt m0 B C J s ⟨#[106]⟩ 5 f L i + L[i]?.getD 0) u1 (by omega) (by omega) w h)
            rw [HNE.out, HNB.out, HNV.out] at HNX
            clear HNE HNB HNV
            generalize tAt m0 B C J s ⟨#[106]⟩ 5 f L (i + 1) = z at *
            generalize tAt m0 B C J s ⟨#[106]⟩ 5 f L i = t at *
            generalize L[i]?.getD 0 = x at *
            have hw0 : IntKind.i64.wrap ((i : Int) + 1) = (i : Int) + 1 := by rw [IntKind.wrap_i64]; omega
            have hw1 : IntKind.i64.wrap (t + x) = t + x := by rw [IntKind.wrap_i64]; omega
            have hik : (i : Int) < m0 := by omega
            have hik1 : (i : Int) < (m0 : Int) + 1 := by omega
            have hik2 : (i : Int) + 1 < (m0 : Int) + 1 := by omega
            have KK : Hid (∀ V, G wr V → V.cell? ⟨bO, oO + i, none⟩ = some (.int .i64 t) ∧ V.cell? ⟨kR, 0, none⟩ = some (.int .i64 m0) ∧ V.cell? ⟨kR, 1, none⟩ = some (.int .i64 B) ∧ V.cell? ⟨kR, 2, none⟩ = some (.int .i64 C) ∧ V.cell? ⟨kR, 3, none⟩ = some (.int .i64 J)) := Lib.hid (fun V h => ⟨G.cell h (World.block_lt_of_cell? wr _ cO) cO, (hbR.g h).cell 0, (hbR.g h).cell 1, (hbR.g h).cell 2, (hbR.g h).cell 3⟩)
            have KO : Hid (∀ V, G wr V → V.cell? ⟨bO, oO + (i + 1), none⟩ = some (.int .i64 z)) := Lib.hid (fun V h => G.cell h (World.block_lt_of_cell? wr _ cO1) cO1)
            clear cO1 hbR
            go_wp2_with fail
            go_region_held3 (fun w' => w'.cell? ⟨bO, oO + i, none⟩ = some (.int .i64 t) ∧ w'.cell? ⟨kR, 0, none⟩ = some (.int .i64 m0) ∧ w'.cell? ⟨kR, 1, none⟩ = some (.int .i64 B) ∧ w'.cell? ⟨kR, 2, none⟩ = some (.int .i64 C) ∧ w'.cell? ⟨kR, 3, none⟩ = some (.int .i64 J)) (first | exact KK.out _ (G.refl _) | exact KK.out _ gD | exact KK.out _ g5 | fail)
              (first
                | (go_at_call 17; refine (HNX.out _ (by exact hT)).mono ?_; rintro e0 v1 ⟨rfl, g5⟩; replace g5 : G wr v1 := gD.trans g5))
            have cO1 := KO.out _ g5
            go_wp2_with fail
            go_roundw
            case rel => exact ⟨i + 1, by omega, by go_num, hg.trans g5⟩
            case measure => simp [intOf]; omega
          · obtain rfl : i = m0 := by omega
            go_wp2_with fail
            go_at_call 12
            refine (works_any _ (HT.out.g (gA.trans hg))).mono ?_
            rintro e0 w99 ⟨rfl, gx⟩
            go_wp2_with fail
            go_ret
            exact ⟨rfl, (gA.trans hg).trans gx⟩
  · have hmi : (l.length : Int) ≤ m0 := by omega
    go_enter Tryd.func7, Tryd.ntmps7
    go_wp2_with fail
    go_at_call 27
    refine (HMd.out _).mono ?_
    rintro e0 w1 ⟨rfl, g1⟩
    have bR := Blk.new w1 23 #[.int .i64 m0, .int .i64 B, .int .i64 C, .int .i64 J]
    have gA : G w (w1.alloc (.cells #[.int .i64 m0, .int .i64 B, .int .i64 C, .int .i64 J] 23)) := (((G.refl w).alloc _).trans g1).alloc _
    clear g1
    have c0 : (w1.alloc (.cells #[.int .i64 m0, .int .i64 B, .int .i64 C, .int .i64 J] 23)).cell? ⟨w1.heap.size, 0, none⟩ = some (.int .i64 m0) := bR.cell 0
    have c1 : (w1.alloc (.cells #[.int .i64 m0, .int .i64 B, .int .i64 C, .int .i64 J] 23)).cell? ⟨w1.heap.size, 1, none⟩ = some (.int .i64 B) := bR.cell 1
    have c2 : (w1.alloc (.cells #[.int .i64 m0, .int .i64 B, .int .i64 C, .int .i64 J] 23)).cell? ⟨w1.heap.size, 2, none⟩ = some (.int .i64 C) := bR.cell 2
    have c3 : (w1.alloc (.cells #[.int .i64 m0, .int .i64 B, .int .i64 C, .int .i64 J] 23)).cell? ⟨w1.heap.size, 3, none⟩ = some (.int .i64 J) := bR.cell 3
    go_wp2_with fail
    generalize w1.alloc (.cells #[.int .i64 m0, .int .i64 B, .int .i64 C, .int .i64 J] 23) = w2 at *
    generalize w1.heap.size = kR at *
    obtain ⟨n, hn⟩ : ∃ n, w2.heap.size = n := ⟨_, rfl⟩
    go_loopw [10, 30] (fun ov kv wr => ∃ k : Nat, k ≤ l.length ∧ kv = .int .i64 k ∧ G w2 wr ∧ wr.ownsRow n 2 1 ov k (vI .i64 (l.take k))) (fun _ kv _ => l.length - (intOf kv).toNat)
    case atStart => exact ⟨0, by omega, rfl, G.refl _, World.ownsRow_nil _ _ _ _⟩
    case round =>
      obtain ⟨k, hk, rfl, hg, hown⟩ := hrel
      by_cases hlt : k < l.length
      · have hki : (k : Int) < l.length := by omega
        have hkl : k < l.length := by omega
        obtain ⟨b1, o1, rfl, c1⟩ := hd (by omega)
        have e1 := c1 k _ (vI_get hkl)
        have f1 := (gA.trans hg).cell (World.block_lt_of_cell? w _ e1) e1
        clear c1 e1
        have HU : Hid (l.take (k + 1) = l.take k ++ [l[k]?.getD 0]) := Lib.hid (by rw [List.take_add_one, List.getElem?_eq_getElem hkl]; rfl)
        have hx := HSP.out (l[k]?.getD 0) (by rw [List.getElem?_eq_getElem hkl]; exact List.getElem_mem hkl)
        obtain ⟨x0, x1⟩ := hx
        generalize l[k]?.getD 0 = x at *
        have hk20 : k ≤ 20 := by omega
        have hns : n ≤ wr.heap.size := by have := hg.size; omega
        go_wp2_with (at_builtin; refine wpList_append_own _ rfl _ _ 27 rfl n 2 i0 (.int .i64 0) 1 8 Tryd.underlying27 hi hz0 hz1 hz2 rfl (by decide) _ _ _ rfl (hown.alloc _) ⟨wr.heap.size, 0, none⟩ 1 1 [.int .i64 x] rfl rfl (cell_one_new _ _ _) (by simp [Value.oneCell']) (by unfold maxLen; omega) (by omega) (by simp; omega) ?_; intro v' w3 hown' hgrow _)
        have hg3 : G w2 w3 := (hg.alloc _).grown hgrow (fun r e => by have := (hown.lt r e).1; omega)
        rw [vI_app_, ← HU.out] at hown'
        go_wp2_with fail
        go_roundw
        case rel => exact ⟨k + 1, by omega, by go_num, hg3, hown'⟩
        case measure => simp [intOf]; omega
      · obtain rfl : k = l.length := by omega
        rw [List.take_length] at hown
        obtain ⟨L, hL⟩ : ∃ L, L = l := ⟨_, rfl⟩
        have hLn : L.length = l.length := by rw [hL]
        have hLS : ∀ x ∈ L, 0 ≤ x ∧ x ≤ 65535 := fun x hx => HSP.out x (by rw [hL] at hx; exact hx)
        rw [← hL] at hown
        replace bR := bR.g hg
        replace gA := gA.trans hg
        have rL := Rd.of_own hown
        clear hown c0 c1 c2 c3 hL hd hg
        obtain ⟨A2, cc, rfl, hcc, hccm, hd2⟩ := id rL
        rw [vI_len, hLn] at rL hcc hd2 ⊢
        generalize l.length = k at *
        have c0 : wr.cell? ⟨kR, 0, none⟩ = some (.int .i64 m0) := bR.cell 0
        have c1 : wr.cell? ⟨kR, 1, none⟩ = some (.int .i64 B) := bR.cell 1
        have c2 : wr.cell? ⟨kR, 2, none⟩ = some (.int .i64 C) := bR.cell 2
        have c3 : wr.cell? ⟨kR, 3, none⟩ = some (.int .i64 J) := bR.cell 3
        have hk20 : k ≤ 20 := by omega
        have hLsp : ∀ x ∈ L, spB x := fun x hx => by have := hLS x hx; unfold spB; omega
        have hrt : rtE m0 B C J ⟨#[106]⟩ 5 f = 0 := by unfold rtE; rw [if_pos HOK.out, if_pos (by decide +kernel), if_pos ⟨by decide, by unfold tmB; omega⟩]
        have HE : Hid (chE m0 B C J ⟨#[106]⟩ 5 f L = 0) := Lib.hid (by unfold chE; rw [if_pos hrt, if_pos (by omega), if_pos hLsp])
        have HL : Hid (chL m0 B C J s ⟨#[106]⟩ 5 f L = (List.range (k + 1)).map (tAt m0 B C J s ⟨#[106]⟩ 5 f L)) := Lib.hid ((if_pos HE.out).trans (by rw [hLn]))
        have HTB := Lib.hid (tAt_bd (M := m0) (B := B) (C := C) (J := J) (a := s) (s := ⟨#[106]⟩) (d := 5) (first := f) (by unfold tmB; omega) hLsp)
        have HLS := Lib.hid hLS
        have HLn := Lib.hid hLn
        have HRt := Lib.hid hrt
        clear hrt hLS hLsp hd2
        go_wp2_with fail
        go_at_call 14
        refine (chain_any m0 B C J s _ 5 f _ L u1 (by rw [HLn.out]; omega) _ (by rw [← HLn.out] at rL; rw [HLn.out] at rL; exact rL) (HT.out.g gA)).mono ?_
        rintro e0 w3 ⟨vO, rfl, rO, gx⟩
        rw [HE.out]
        rw [HL.out] at rO
        replace gA := gA.trans gx
        replace bR := bR.g gx
        replace rL := rL.g gx
        clear c0 c1 c2 c3 gx
        obtain ⟨A3, c3', rfl, hc3, hcm3, hdO⟩ := id rO
        rw [show (vI .i64 ((List.range (k + 1)).map (tAt m0 B C J s ⟨#[106]⟩ 5 f L))).length = k + 1 by simp [vI]] at hc3 hdO rO ⊢
        obtain ⟨bO, oO, rfl, dO⟩ := hdO (by omega)
        have cO0 : w3.cell? ⟨bO, oO, none⟩ = some (.int .i64 f) := dO 0 _ (tAt_get _ 0 (k + 1) (by omega))
        go_wp2_with fail
        clear cO0
        go_loopw [69] (fun iv wr => ∃ i : Nat, i ≤ k ∧ iv = .int .i64 i ∧ G w3 wr) (fun iv _ => k - (intOf iv).toNat)
        case atStart => exact ⟨0, by omega, rfl, G.refl _⟩
        case round =>
          obtain ⟨i, hi2, rfl, hg⟩ := hrel
          by_cases hlt : i < k
          · obtain ⟨bL, oL, rfl, dL⟩ := Rd.at_ rL (by rw [vI_len, HLn.out]; omega)
            have hiL : i < L.length := by rw [HLn.out]; exact hlt
            have cL := (G.cell hg (World.block_lt_of_cell? w3 _ (dL i _ (vI_get hiL))) (dL i _ (vI_get hiL)))
            have cO := (G.cell hg (World.block_lt_of_cell? w3 _ (dO i _ (tAt_get _ i (k + 1) (by omega)))) (dO i _ (tAt_get _ i (k + 1) (by omega))))
            have cO1 := (G.cell hg (World.block_lt_of_cell? w3 _ (dO (i + 1) _ (tAt_get _ (i + 1) (k + 1) (by omega)))) (dO (i + 1) _ (tAt_get _ (i + 1) (k + 1) (by omega))))
            have hbR := bR.g hg
            have hT : Tab wr.drew := HT.out.g (gA.trans hg).drew
            have gD : G wr wr.drew := (G.refl wr).drew
            have hx : 0 ≤ L[i]?.getD 0 ∧ L[i]?.getD 0 ≤ 65535 := by
              rw [List.getElem?_eq_getElem hiL]
              exact HLS.out _ (List.getElem_mem hiL)
            obtain ⟨x0, x1⟩ := hx
            obtain ⟨t0, t1⟩ := HTB.out i
            have t2 : tAt m0 B C J s ⟨#[106]⟩ 5 f L i ≤ 253402300799 - 100000 := by
              have := tAt_bd2 s ⟨#[106]⟩ 5 f L HOK.out cc1 j1 f0 f1 HLS.out i
              omega
            clear t1
            have hrt2 : rtE m0 B C J ⟨#[106]⟩ 5 (tAt m0 B C J s ⟨#[106]⟩ 5 f L i + L[i]?.getD 0) = 0 := by unfold rtE; rw [if_pos HOK.out, if_pos (by decide +kernel), if_pos ⟨by decide, by unfold tmB; omega⟩]
            have HNE : Hid (nxE m0 B C J ⟨#[106]⟩ 5 ((i : Int) + 1) (tAt m0 B C J s ⟨#[106]⟩ 5 f L i + L[i]?.getD 0) = 0) := Lib.hid ((if_pos hrt2).trans (by unfold lfE; rw [if_pos HOK.out, if_pos (by omega)]))
            have HNB : Hid (nxB m0 B C J ⟨#[106]⟩ 5 ((i : Int) + 1) (tAt m0 B C J s ⟨#[106]⟩ 5 f L i + L[i]?.getD 0) = true) := Lib.hid (decide_eq_true ⟨HNE.out, by omega⟩)
            have HNV : Hid (nxV m0 B C J s ⟨#[106]⟩ 5 ((i : Int) + 1) (tAt m0 B C J s ⟨#[106]⟩ 5 f L i + L[i]?.getD 0) = tAt m0 B C J s ⟨#[106]⟩ 5 f L (i + 1)) := Lib.hid ((if_pos HNB.out).trans (by rw [tAt, Int.add_assoc]))
            clear hrt2
            have HNX := Lib.hid (fun w h => next_any m0 B C J s ⟨#[106]⟩ 5 ((i : Int) + 1) (tAt m0 B C J s ⟨#[106]⟩ 5 f L i + L[i]?.getD 0) u1 (by omega) (by omega) w h)
            rw [HNE.out, HNB.out, HNV.out] at HNX
            clear HNE HNB HNV
            generalize tAt m0 B C J s ⟨#[106]⟩ 5 f L (i + 1) = z at *
            generalize tAt m0 B C J s ⟨#[106]⟩ 5 f L i = t at *
            generalize L[i]?.getD 0 = x at *
            have hw0 : IntKind.i64.wrap ((i : Int) + 1) = (i : Int) + 1 := by rw [IntKind.wrap_i64]; omega
            have hw1 : IntKind.i64.wrap (t + x) = t + x := by rw [IntKind.wrap_i64]; omega
            have hik : (i : Int) < k := by omega
            have hik1 : (i : Int) < (k : Int) + 1 := by omega
            have hik2 : (i : Int) + 1 < (k : Int) + 1 := by omega
            have KK : Hid (∀ V, G wr V → V.cell? ⟨bO, oO + i, none⟩ = some (.int .i64 t) ∧ V.cell? ⟨kR, 0, none⟩ = some (.int .i64 m0) ∧ V.cell? ⟨kR, 1, none⟩ = some (.int .i64 B) ∧ V.cell? ⟨kR, 2, none⟩ = some (.int .i64 C) ∧ V.cell? ⟨kR, 3, none⟩ = some (.int .i64 J)) := Lib.hid (fun V h => ⟨G.cell h (World.block_lt_of_cell? wr _ cO) cO, (hbR.g h).cell 0, (hbR.g h).cell 1, (hbR.g h).cell 2, (hbR.g h).cell 3⟩)
            have KO : Hid (∀ V, G wr V → V.cell? ⟨bO, oO + (i + 1), none⟩ = some (.int .i64 z)) := Lib.hid (fun V h => G.cell h (World.block_lt_of_cell? wr _ cO1) cO1)
            clear cO1 hbR
            go_wp2_with fail
            go_region_held3 (fun w' => w'.cell? ⟨bO, oO + i, none⟩ = some (.int .i64 t) ∧ w'.cell? ⟨kR, 0, none⟩ = some (.int .i64 m0) ∧ w'.cell? ⟨kR, 1, none⟩ = some (.int .i64 B) ∧ w'.cell? ⟨kR, 2, none⟩ = some (.int .i64 C) ∧ w'.cell? ⟨kR, 3, none⟩ = some (.int .i64 J)) (first | exact KK.out _ (G.refl _) | exact KK.out _ gD | exact KK.out _ g5 | fail)
              (first
                | (go_at_call 17; refine (HNX.out _ (by exact hT)).mono ?_; rintro e0 v1 ⟨rfl, g5⟩; replace g5 : G wr v1 := gD.trans g5))
            have cO1 := KO.out _ g5
            go_wp2_with fail
            go_roundw
            case rel => exact ⟨i + 1, by omega, by go_num, hg.trans g5⟩
            case measure => simp [intOf]; omega
          · obtain rfl : i = k := by omega
            go_wp2_with fail
            go_at_call 12
            refine (works_any _ (HT.out.g (gA.trans hg))).mono ?_
            rintro e0 w99 ⟨rfl, gx⟩
            go_wp2_with fail
            go_ret
            exact ⟨rfl, (gA.trans hg).trans gx⟩

set_option maxRecDepth 4000 in
set_option maxHeartbeats 2000000 in
theorem contract (H : Type) (enc : TypeId × Value → H) (W : World) (base : Nat) (args : Array Value) (ds gs : List (DataW H)) (before : List MemPlace)
    (hval : ∀ (j : Nat) t v, Tryd.f7.params[j]? = some t → args[j]? = some v → Value.okWide Tryd.prog W .any base t v)
    (hW : DataW.Whole enc Tryd.prog Tryd.f7.params.toList Rows.retryStepsSpec.vars false W args.toList ds gs before) (hL : laidMetH Tryd.prog Rows.retryStepsRow.laid W) :
    Calls Tryd.prog 7 args W fun e W' => ∃ v, e = .returned v ∧ Rows.retryStepsSpec.post enc Tryd.prog Tryd.f7 false true false false W args v W' := by
  have hW' := hW
  obtain ⟨p, q, hA0, hV, rfl, hfz, hnd⟩ := hW
  have hA : DataW.TrodAll enc Tryd.prog W 0 (fun _ => true) true Tryd.f7.params.toList args.toList ds p := hA0
  rw [Tryd.params7] at hA hval
  obtain ⟨v0, vs0, d0, ds0, p0, q0, hargs, rfl, rfl, h0, r0⟩ := trodAll_cons hA
  obtain ⟨v1, vs1, d1, ds1, p1, q1, rfl, rfl, rfl, h1, r1⟩ := trodAll_cons r0
  obtain ⟨v2, vs2, d2, ds2, p2, q2, rfl, rfl, rfl, h2, r2⟩ := trodAll_cons r1
  obtain ⟨v3, vs3, d3, ds3, p3, q3, rfl, rfl, rfl, h3, r3⟩ := trodAll_cons r2
  obtain ⟨rfl, rfl, rfl⟩ := trodAll_nil r3
  obtain rfl : args = #[v0, v1, v2, v3] := by first | exact Array.ext' hargs | (cases args; simp_all)
  obtain ⟨a0, b0, c0, e0, rfl, ra0, rb0, rc0, re0⟩ := open_small (hval 0 48 v0 rfl rfl) h0
  obtain ⟨a1, rfl, rfl, rfl, w1⟩ := open_int Tryd.underlying24 (hval 1 24 v1 rfl rfl) h1
  simp [Lit.wf, IntKind.min, IntKind.max, IntKind.bits, IntKind.signed] at w1
  obtain ⟨a2, rfl, rfl, rfl, w2⟩ := open_int Tryd.underlying49 (hval 2 49 v2 rfl rfl) h2
  simp [Lit.wf, IntKind.min, IntKind.max, IntKind.bits, IntKind.signed] at w2
  obtain ⟨l3, R3, B3⟩ := open_list (k := .u16) Tryd.underlying55 Tryd.underlying46 (by kernel_rfl) (hval 3 55 v3 rfl rfl) h3
  refine (walk (w := W) a0 b0 c0 e0 ra0 rb0 rc0 re0 a1 (by omega) (by omega) a2 (by omega) (by omega) v3 l3 R3 B3 (tab_of hL)).mono fun e W' ⟨he, hg⟩ => ?_
  subst he
  exact ⟨_, rfl, law_post laidOut_ (by
    intro t ht
    rw [Tryd.params7] at ht
    simp at ht
    rcases ht with rfl | rfl | rfl | rfl <;> exact ⟨by kernel_rfl, by decide +kernel⟩) hW' rfl rfl (by kernel_rfl) Tryd.underlying4 hg⟩
theorem laid_met (os : Os) : laidMet Tryd.prog Rows.retryStepsRow.laid ((laidWorld os).forCall (fun _ _ => 0) ⟨#[], #[.agg #[.int .u8 0, .int .u16 0, .int .u16 0, .int .u16 0], .int .u64 0, .int .u32 0, .slice none 0 0], []⟩).memory :=
  laidMet_of_run' 8 (by kernel_rfl) (by kernel_rfl)
theorem reads (os : Os) {H : Type} (enc : TypeId × Value → H) : ∃ places, DataW.whole enc Tryd.prog ((laidWorld os).forCall (fun _ _ => 0) ⟨#[], #[.agg #[.int .u8 0, .int .u16 0, .int .u16 0, .int .u16 0], .int .u64 0, .int .u32 0, .slice none 0 0], []⟩).memory Tryd.f7.params.toList Rows.retryStepsSpec.vars false (#[.agg #[.int .u8 0, .int .u16 0, .int .u16 0, .int .u16 0], .int .u64 0, .int .u32 0, .slice none 0 0] : Array Value).toList 8 = some ([.agg [.lit (.int .u8 0), .lit (.int .u16 0), .lit (.int .u16 0), .lit (.int .u16 0)], .lit (.int .u64 0), .lit (.int .u32 0), .nil], [], places) :=
  ⟨[], by kernel_rfl⟩
set_option maxRecDepth 100000 in
theorem lifted (os : Os) (started : os.Started) (H : Type) (enc : TypeId × Value → H) (F : Stop.Interp) :
    ReturnsInHanded {} Tryd.checked os 7 .any ((OpenSpec.ofChange Rows.retryStepsSpec).preRow enc Tryd.prog Tryd.f7 Rows.retryStepsRow.domain false Rows.retryStepsRow.laid) (((OpenSpec.ofChange Rows.retryStepsSpec).at F).post enc Tryd.prog Tryd.f7 false true false false) := by
  obtain ⟨places, hx⟩ := reads os enc
  refine returnsInHanded_of_row (C := Tryd.checked) (s := OpenSpec.ofChange Rows.retryStepsSpec) own_ started (by kernel_rfl) Tryd.func7
    (witness_row_at (enc := enc) (C := Tryd.checked) false (laidWorld os) #[.agg #[.int .u8 0, .int .u16 0, .int .u16 0, .int .u16 0], .int .u64 0, .int .u32 0, .slice none 0 0] rfl (by kernel_rfl) (by kernel_rfl) (by kernel_rfl)
      (OpenSpec.preRow_of_cond 8 hx (by kernel_rfl) (fun k hk => by cases hk) (by kernel_rfl) (laid_met os))) ?_
  intro W base args ds gs before hval hW _ _ _ hL _ _
  exact contract H enc W base args ds gs before hval hW hL
theorem said : Rows.RetryStepsSaid :=
  OpenClaim.holds_of_cond 7 Tryd.f7 rfl rfl rfl rfl rfl rfl rfl ⟨rfl, rfl, rfl, rfl, rfl⟩ rfl rfl rfl rfl rfl (by kernel_rfl) Tryd.func7 (by kernel_rfl)
    (of_decide_eq_true (by kernel_rfl)) (by unfold Func.isWrapper; first | (rw [if_pos (by decide +kernel)]; kernel_rfl) | (rw [if_neg (by decide +kernel)]; exact ⟨rfl, rfl⟩))
    (fun os started H enc _ F => by rw [OpenClaim.pre_eq_preRow]; exact lifted os started H enc F)
theorem plain (f : FuncId) (fn : Func) (hf : Tryd.pinned.checked.prog.funcNamed "wakeman/wakemanlaw31.RetrySteps" = some f) (hfn : Tryd.pinned.checked.prog.funcs[f]? = some fn) :
    false = Tryd.pinned.checked.prog.looks [] ∧ ∀ (j : Nat) t, fn.params[j]? = some t → Tryd.pinned.checked.prog.wantsStandIn t = false := by
  obtain rfl : f = 7 := Option.some.inj ((show Tryd.prog.funcNamed "wakeman/wakemanlaw31.RetrySteps" = some 7 by kernel_rfl).symm.trans hf) |>.symm
  obtain rfl : fn = Tryd.f7 := (Option.some.inj (Tryd.func7.symm.trans hfn)).symm
  refine ⟨by kernel_rfl, fun j t ht => ?_⟩
  rw [Tryd.params7] at ht
  have hm := Array.mem_of_getElem? ht
  simp at hm
  rcases hm with rfl | rfl | rfl | rfl
  · exact (show Tryd.prog.wantsStandIn 48 = false by kernel_rfl)
  · exact (show Tryd.prog.wantsStandIn 24 = false by kernel_rfl)
  · exact (show Tryd.prog.wantsStandIn 49 = false by kernel_rfl)
  · exact (show Tryd.prog.wantsStandIn 55 = false by kernel_rfl)
theorem card : Rows.RetryStepsCardSaid :=
  Claim7.holds_tied_plain_at .later [] _ _ _ _ said (fun _ h => by cases h) (by kernel_rfl) (fun _ h => by cases h) retrySteps_row_tie rfl ⟨rfl, rfl⟩ (by kernel_rfl) rfl plain (by kernel_rfl)
#print axioms card
end Go.Proofs.YtanipfenioaigaaDoor.lawRetrySteps
