/-
  GcraStays: what is refused, and what is asked, changes nothing; a copy goes on alone.
-/
import Derived.Test.YtgookddningjpaaTieP
import Derived.Test.YtgookddningjpaaGcU
set_option linter.unusedVariables false
set_option linter.unusedSimpArgs false
namespace Go.Proofs.Ytgookddningjpaa.lawGcraStays
open Go.ChangeShapes Go.WideShapes Go.ChangeAt Go.RowKit

theorem _root_.Go.Proofs.Ytgookddningjpaa.FineK.cast {a b : Nat} {som : Bool} {tat last T U : Int} (h : FineK a som tat last T U) (e : a = b) : FineK b som tat last T U := e ▸ h
set_option maxRecDepth 4000 in
set_option maxHeartbeats 8000000 in
theorem walk {w : World} (t : Int) (h0 : 0 ≤ t) (h1 : t ≤ 255) (u : Int) (u0 : 0 ≤ u) (u1 : u ≤ 255) (v : Value) (l : List Int) (hR : Rd w v (vI .u8 l)) (hl : ∀ x ∈ l, (Lit.int .u8 x).wf = true) (other : Int) (o0 : -9223372036854775808 ≤ other) (o1 : other ≤ 9223372036854775807) :
    Calls Try.prog 10 #[.int .u8 t, .int .u8 u, v, .int .i64 other] w fun e w' => e = .returned (.bool true) ∧ G w w' := by
  have HS := Lib.hid hl
  have hv : validL (smT t) (smU t u) := small_valid h0 u0 u1
  have T1 : smT t ≤ 31 := by unfold smT; omega
  have U1 : smU t u ≤ 255 := by unfold smU; split <;> omega
  have HO := Lib.hid (stepsOk l)
  have HF : Hid (FineK 0 false 0 0 (smT t) (smU t u)) := Lib.hid ⟨hv, T1, U1, by omega, by omega⟩
  have HV := Lib.hid hv
  clear hv hl T1 U1
  go_enter Try.func10, Try.ntmps10
  go_wp2_with fail
  refine (small_any t u h0 h1 u0 u1 _).mono ?_
  rintro e w1 ⟨rfl, g1⟩
  clear h0 h1 u0 u1
  generalize smT t = T at *
  generalize smU t u = U at *
  go_wp2_with fail
  refine (new_yes T U HV.out _).mono ?_
  rintro e w3 ⟨kL, rfl, hkL, g3, hL⟩
  have gW3 : G w w3 := g1.trans g3
  have hkw : w.heap.size ≤ kL := Nat.le_trans g1.size hkL
  clear g1 g3 hkL w1
  go_wp2_with fail
  refine (steps_any v l HS.out _ (hR.g gW3)).mono ?_
  rintro e w4 ⟨ts, rfl, g4, own4⟩
  have hRd := Rd.of_own own4
  have own4' := own4.lt
  clear own4 HS hR
  generalize upA l 1000 0 64 (min l.length 60) = L at *
  obtain ⟨a, cap, rfl, hcap, hmx, hcell⟩ := hRd
  have HB := Lib.hid own4'
  rw [vI_len] at hcap
  rw [vI_len]
  have HC := Lib.hid hcell
  clear hcell own4'
  have hL4 := hL.g g4
  have gW4 := gW3.trans g4
  have hLw := hL.lt
  have hL4w := hL4.lt
  clear hL gW3 g4
  go_wp2_with fail
  go_loopw [39] (fun iv wr => ∃ (k : Nat) (som : Bool) (tat last : Int), k ≤ L.length ∧ iv = .int .i64 k ∧ w4.grownBy wr (some kL) ∧ Lim wr kL som tat last T U ∧ Hid (FineK (2 * k) som tat last T U)) (fun iv _ => L.length - (intOf iv).toNat)
  case atStart => exact ⟨0, false, 0, 0, by omega, rfl, grown_of_G (G.refl _) _, hL4, HF⟩
  case round =>
    obtain ⟨k, som, tat, last, hk, rfl, hg, hLk, HFk⟩ := hrel
    clear hL4
    have hl60 : L.length ≤ 60 := HO.out.1
    by_cases hlt : k < L.length
    · obtain ⟨b, o, rfl, hc⟩ := HC.out (by rw [vI_len]; omega)
      have d0 := at_vQ hc (k := k) (by omega)
      have d0 : wr.cell? ⟨b, o + k, none⟩ = some (.int .i64 (at_ L k)) := hg.cell d0 (by intro h; cases h; exact absurd hLw (Nat.not_lt.2 (HB.out b rfl).1))
      obtain ⟨m0, m1⟩ := HO.out.2.1 k hlt
      have HOK := Lib.hid (HFk.out.okl (by omega))
      have HT : Hid (isT (at_ L k)) := Lib.hid ⟨by omega, by omega⟩
      have HF1 := Lib.hid (HFk.out.tk (now := at_ L k) (fun _ => ⟨by omega, m1⟩))
      have hlk : (k : Int) < (L.length : Int) := by omega
      clear hc
      generalize at_ L k = now at *
      have HOK1 := Lib.hid (HF1.out.okl (by omega))
      go_wp2_with fail
      refine (tat_any kL _ _ _ _ _ _ hLk).mono ?_
      rintro e w5 ⟨rfl, g5⟩
      go_wp2_with fail
      refine (next_any kL _ _ _ _ _ _ HOK.out HT.out _ (hLk.g g5)).mono ?_
      rintro e w6 ⟨rfl, g6⟩
      have hL6 := hLk.g (g5.trans g6)
      have hg6 := grown_trans hg (grown_of_G (g5.trans g6) _)
      clear hLk hg g5 g6
      generalize hN : nextI som tat last T U now = N at *
      have HN := Lib.hid hN
      clear hN
      go_wp2_with fail
      refine (copy_any kL _ _ _ _ _ _ hL6).mono ?_
      rintro e w7 ⟨rfl, rfl⟩
      have hCk : Lim (w6.alloc (.cells #[.bool som, .int .i64 tat, .int .i64 last, .int .i64 T, .int .i64 U, .bool true] 60)) w6.heap.size som tat last T U := Blk.new _ _ _
      have hL7 := hL6.alloc (.cells #[.bool som, .int .i64 tat, .int .i64 last, .int .i64 T, .int .i64 U, .bool true] 60)
      have hg7 := grown_trans hg6 (grown_of_G ((G.refl w6).alloc (.cells #[.bool som, .int .i64 tat, .int .i64 last, .int .i64 T, .int .i64 U, .bool true] 60)) _)
      have hsz : w4.heap.size ≤ w6.heap.size := hg6.size
      have hne := hL6.lt
      clear hL6 hg6
      generalize w6.alloc (.cells #[.bool som, .int .i64 tat, .int .i64 last, .int .i64 T, .int .i64 U, .bool true] 60) = w7 at *
      generalize w6.heap.size = kC at hCk hsz hne ⊢
      go_wp2_with fail
      refine (take_gen kC _ _ _ _ _ _ HOK.out _ hCk).mono ?_
      rintro e w8 ⟨rfl, g8, hC8⟩
      have hg8 := grown_far hg7 g8 (fun r e => by cases e; exact hsz)
      have hL8 := hL7.grown g8 (fun e => by cases e; exact absurd hne (Nat.lt_irrefl _))
      clear hg7 hL7 hCk g8
      have hmin : now + 5000 ≤ 253402300799 := by omega
      go_wp2_with fail
      refine (take_gen kC _ _ _ _ _ _ HOK1.out _ hC8).mono ?_
      rintro e w9 ⟨rfl, g9, -⟩
      have hg9 := grown_far hg8 g9 (fun r e => by cases e; exact hsz)
      have hL9 := hL8.grown g9 (fun e => by cases e; exact absurd hne (Nat.lt_irrefl _))
      clear hg8 hL8 hC8 g9
      go_wp2_with fail
      refine (tat_any kL _ _ _ _ _ _ hL9).mono ?_
      rintro e w10 ⟨rfl, g10⟩
      go_wp2_with fail
      refine (next_any kL _ _ _ _ _ _ HOK.out HT.out _ (hL9.g g10)).mono ?_
      rintro e w11 ⟨rfl, g11⟩
      rw [HN.out]
      have hL11 := hL9.g (g10.trans g11)
      have hg11 := grown_trans hg9 (grown_of_G (g10.trans g11) _)
      clear hL9 hg9 g10 g11
      go_wp2_with fail
      clear HN HF1 HOK1 d0
      by_cases hce : checkE som tat last T U now = 0
      · have HCE := Lib.hid hce
        clear hce
        have HF2 := Lib.hid (HFk.out.take (now := now) (by omega) m1)
        refine (take_ok kL _ _ _ _ _ _ HOK.out HCE.out _ hL11).mono ?_
        rintro e w12 ⟨rfl, g12, hL12⟩
        have hg12 := grown_trans hg11 g12
        clear hg11 hL11 g12 HFk HOK HCE
        generalize max now tat + T = t2 at *
        go_wp2_with fail
        refine (tat_any kL _ _ _ _ _ _ hL12).mono ?_
        rintro e w13 ⟨rfl, g13⟩
        have hL20 := hL12.g g13
        have hg20 := grown_trans hg12 (grown_of_G g13 _)
        clear hL12 hg12 g13
        have HOK2 := Lib.hid (HF2.out.okl (by omega))
        by_cases ho : other < now
        · have ho' : decide (other < now) = true := by simpa using ho
          by_cases hco : checkE true t2 now T U other = 0
          · have hto := isT_of_ok hco
            obtain ⟨p0, p1⟩ := hto
            have HCO := Lib.hid hco
            have e0 : decide (other < 0) = false := by simp; omega
            have e1 : decide (253402300799 < other) = false := by simp; omega
            have HF3 := Lib.hid ((HF2.out.take (now := other) p0 (by omega)).cast (by omega : 2 * k + 1 + 1 = 2 * (k + 1)))
            clear hco
            go_wp2_with fail
            refine (take_ok kL _ _ _ _ _ _ HOK2.out HCO.out _ hL20).mono ?_
            rintro e w21 ⟨rfl, g21, hL21⟩
            have hg21 := grown_trans hg20 g21
            go_wp2_with fail
            refine (tat_any kL _ _ _ _ _ _ hL21).mono ?_
            rintro e w22 ⟨rfl, g22⟩
            go_wp2_with fail
            go_roundw
            case rel => exact ⟨k + 1, true, _, _, by omega, by go_num, grown_trans hg21 (grown_of_G g22 _), hL21.g g22, HF3⟩
            case measure => simp [intOf]; omega
          · have b0 : (checkE true t2 now T U other == 0) = false := by simpa using hco
            have b1 : (checkE true t2 now T U other != 0) = true := by simpa using hco
            have HCO := Lib.hid hco
            clear hco
            go_wp2_with fail
            refine (take_no kL _ _ _ _ _ _ HOK2.out HCO.out _ hL20).mono ?_
            rintro e w21 ⟨rfl, g21⟩
            go_wp2_with fail
            refine (tat_any kL _ _ _ _ _ _ (hL20.g g21)).mono ?_
            rintro e w22 ⟨rfl, g22⟩
            go_wp2_with fail
            go_roundw
            case rel => exact ⟨k + 1, true, t2, now, by omega, by go_num, grown_trans hg20 (grown_of_G (g21.trans g22) _), hL20.g (g21.trans g22), Lib.hid (HF2.out.same.cast (by omega : 2 * k + 1 + 1 = 2 * (k + 1)))⟩
            case measure => simp [intOf]; omega
        · have ho' : decide (other < now) = false := by simpa using ho
          by_cases hm : 253402300799 < other
          · have hm' : decide (253402300799 < other) = true := by simpa using hm
            by_cases hco : checkE true t2 now T U other = 0
            · exact absurd (isT_of_ok hco).2 (by omega)
            · have b0 : (checkE true t2 now T U other == 0) = false := by simpa using hco
              have b1 : (checkE true t2 now T U other != 0) = true := by simpa using hco
              have HCO := Lib.hid hco
              clear hco
              go_wp2_with fail
              refine (take_no kL _ _ _ _ _ _ HOK2.out HCO.out _ hL20).mono ?_
              rintro e w21 ⟨rfl, g21⟩
              go_wp2_with fail
              refine (tat_any kL _ _ _ _ _ _ (hL20.g g21)).mono ?_
              rintro e w22 ⟨rfl, g22⟩
              go_wp2_with fail
              go_roundw
              case rel => exact ⟨k + 1, true, t2, now, by omega, by go_num, grown_trans hg20 (grown_of_G (g21.trans g22) _), hL20.g (g21.trans g22), Lib.hid (HF2.out.same.cast (by omega : 2 * k + 1 + 1 = 2 * (k + 1)))⟩
              case measure => simp [intOf]; omega
          · have hm' : decide (253402300799 < other) = false := by simpa using hm
            go_wp2_with fail
            go_roundw
            case rel => exact ⟨k + 1, true, t2, now, by omega, by go_num, hg20, hL20, Lib.hid (HF2.out.same.cast (by omega : 2 * k + 1 + 1 = 2 * (k + 1)))⟩
            case measure => simp [intOf]; omega
      · have c0 : (checkE som tat last T U now != 0) = true := by simpa using hce
        have HCE := Lib.hid hce
        clear hce
        have HF2 := Lib.hid HFk.out.same
        refine (take_no kL _ _ _ _ _ _ HOK.out HCE.out _ hL11).mono ?_
        rintro e w12 ⟨rfl, g12⟩
        have hL12 := hL11.g g12
        have hg12 := grown_trans hg11 (grown_of_G g12 _)
        clear hg11 hL11 g12
        go_wp2_with fail
        refine (tat_any kL _ _ _ _ _ _ hL12).mono ?_
        rintro e w13 ⟨rfl, g13⟩
        go_wp2_with fail
        refine (tat_any kL _ _ _ _ _ _ (hL12.g g13)).mono ?_
        rintro e w14 ⟨rfl, g14⟩
        have hL20 := hL12.g (g13.trans g14)
        have hg20 := grown_trans hg12 (grown_of_G (g13.trans g14) _)
        clear hL12 hg12 g13 g14 c0
        have HOK2 := Lib.hid (HF2.out.okl (by omega))
        by_cases ho : other < now
        · have ho' : decide (other < now) = true := by simpa using ho
          by_cases hco : checkE som tat last T U other = 0
          · have hto := isT_of_ok hco
            obtain ⟨p0, p1⟩ := hto
            have HCO := Lib.hid hco
            have e0 : decide (other < 0) = false := by simp; omega
            have e1 : decide (253402300799 < other) = false := by simp; omega
            have HF3 := Lib.hid ((HF2.out.take (now := other) p0 (by omega)).cast (by omega : 2 * k + 1 + 1 = 2 * (k + 1)))
            clear hco
            go_wp2_with fail
            refine (take_ok kL _ _ _ _ _ _ HOK2.out HCO.out _ hL20).mono ?_
            rintro e w21 ⟨rfl, g21, hL21⟩
            have hg21 := grown_trans hg20 g21
            go_wp2_with fail
            refine (tat_any kL _ _ _ _ _ _ hL21).mono ?_
            rintro e w22 ⟨rfl, g22⟩
            go_wp2_with fail
            go_roundw
            case rel => exact ⟨k + 1, true, _, _, by omega, by go_num, grown_trans hg21 (grown_of_G g22 _), hL21.g g22, HF3⟩
            case measure => simp [intOf]; omega
          · have b0 : (checkE som tat last T U other == 0) = false := by simpa using hco
            have b1 : (checkE som tat last T U other != 0) = true := by simpa using hco
            have HCO := Lib.hid hco
            clear hco
            go_wp2_with fail
            refine (take_no kL _ _ _ _ _ _ HOK2.out HCO.out _ hL20).mono ?_
            rintro e w21 ⟨rfl, g21⟩
            go_wp2_with fail
            refine (tat_any kL _ _ _ _ _ _ (hL20.g g21)).mono ?_
            rintro e w22 ⟨rfl, g22⟩
            go_wp2_with fail
            go_roundw
            case rel => exact ⟨k + 1, som, tat, last, by omega, by go_num, grown_trans hg20 (grown_of_G (g21.trans g22) _), hL20.g (g21.trans g22), Lib.hid (HF2.out.same.cast (by omega : 2 * k + 1 + 1 = 2 * (k + 1)))⟩
            case measure => simp [intOf]; omega
        · have ho' : decide (other < now) = false := by simpa using ho
          by_cases hm : 253402300799 < other
          · have hm' : decide (253402300799 < other) = true := by simpa using hm
            by_cases hco : checkE som tat last T U other = 0
            · exact absurd (isT_of_ok hco).2 (by omega)
            · have b0 : (checkE som tat last T U other == 0) = false := by simpa using hco
              have b1 : (checkE som tat last T U other != 0) = true := by simpa using hco
              have HCO := Lib.hid hco
              clear hco
              go_wp2_with fail
              refine (take_no kL _ _ _ _ _ _ HOK2.out HCO.out _ hL20).mono ?_
              rintro e w21 ⟨rfl, g21⟩
              go_wp2_with fail
              refine (tat_any kL _ _ _ _ _ _ (hL20.g g21)).mono ?_
              rintro e w22 ⟨rfl, g22⟩
              go_wp2_with fail
              go_roundw
              case rel => exact ⟨k + 1, som, tat, last, by omega, by go_num, grown_trans hg20 (grown_of_G (g21.trans g22) _), hL20.g (g21.trans g22), Lib.hid (HF2.out.same.cast (by omega : 2 * k + 1 + 1 = 2 * (k + 1)))⟩
              case measure => simp [intOf]; omega
          · have hm' : decide (253402300799 < other) = false := by simpa using hm
            go_wp2_with fail
            go_roundw
            case rel => exact ⟨k + 1, som, tat, last, by omega, by go_num, hg20, hL20, Lib.hid (HF2.out.same.cast (by omega : 2 * k + 1 + 1 = 2 * (k + 1)))⟩
            case measure => simp [intOf]; omega
    · obtain rfl : k = L.length := by omega
      go_wp2_with fail
      refine (works_any _).mono ?_
      rintro e w6 ⟨rfl, g6⟩
      go_wp2_with fail
      go_ret
      exact ⟨rfl, (gW4.own hg hkw).trans g6⟩
set_option maxHeartbeats 2000000 in
theorem contract (H : Type) (enc : TypeId × Value → H) (W : World) (base : Nat) (args : Array Value) (ds gs : List (DataW H)) (before : List MemPlace)
    (hval : ∀ (j : Nat) t v, Try.f10.params[j]? = some t → args[j]? = some v → Value.okWide Try.prog W .any base t v)
    (hW : DataW.Whole enc Try.prog Try.f10.params.toList Rows.gcraStaysSpec.vars false W args.toList ds gs before) :
    Calls Try.prog 10 args W fun e W' => ∃ v, e = .returned v ∧ Rows.gcraStaysSpec.post enc Try.prog Try.f10 false true false false W args v W' := by
  have hW' := hW
  obtain ⟨p, q, hA0, hV, rfl, hfz, hnd⟩ := hW
  have hA : DataW.TrodAll enc Try.prog W 0 (fun _ => true) true Try.f10.params.toList args.toList ds p := hA0
  rw [Try.params10] at hA hval
  obtain ⟨v0, vs0, d0, ds0, p0, q0, hargs, rfl, rfl, h0, r0⟩ := trodAll_cons hA
  obtain ⟨v1, vs1, d1, ds1, p1, q1, rfl, rfl, rfl, h1, r1⟩ := trodAll_cons r0
  obtain ⟨v2, vs2, d2, ds2, p2, q2, rfl, rfl, rfl, h2, r2⟩ := trodAll_cons r1
  obtain ⟨v3, vs3, d3, ds3, p3, q3, rfl, rfl, rfl, h3, r3⟩ := trodAll_cons r2
  obtain ⟨rfl, rfl, rfl⟩ := trodAll_nil r3
  obtain rfl : args = #[v0, v1, v2, v3] := by cases args; simp_all
  obtain ⟨a0, rfl, rfl, rfl, w0⟩ := open_int Try.underlying5 (hval 0 5 v0 rfl rfl) h0
  simp [Lit.wf, IntKind.min, IntKind.max, IntKind.bits, IntKind.signed] at w0
  obtain ⟨a1, rfl, rfl, rfl, w1⟩ := open_int Try.underlying5 (hval 1 5 v1 rfl rfl) h1
  simp [Lit.wf, IntKind.min, IntKind.max, IntKind.bits, IntKind.signed] at w1
  obtain ⟨l2, R2, B2⟩ := open_list (k := .u8) Try.underlying22 Try.underlying5 (by kernel_rfl) (hval 2 22 v2 rfl rfl) h2
  obtain ⟨a3, rfl, rfl, rfl, w3⟩ := open_int Try.underlying2 (hval 3 2 v3 rfl rfl) h3
  simp [Lit.wf, IntKind.min, IntKind.max, IntKind.bits, IntKind.signed] at w3
  refine (walk (w := W) a0 (by omega) (by omega) a1 (by omega) (by omega) v2 l2 R2 B2 a3 (by omega) (by omega)).mono fun e W' ⟨he, hg⟩ => ?_
  subst he
  exact ⟨_, rfl, law_post laidOut_ (by intro t ht; rw [Try.params10] at ht; simp at ht; rcases ht with rfl | rfl | rfl <;> exact ⟨by kernel_rfl, by decide +kernel⟩) hW' rfl rfl (by kernel_rfl) Try.underlying4 hg⟩
set_option maxRecDepth 100000 in
theorem lifted (os : Os) (started : os.Started) (H : Type) (enc : TypeId × Value → H) :
    ReturnsInHanded {} Try.checked os 10 .any (Rows.gcraStaysSpec.pre6 enc Try.prog Try.f10 Rows.gcraStaysRow.domain false) (Rows.gcraStaysSpec.post enc Try.prog Try.f10 false true false false) := by
  refine returnsInHanded_of_change (C := Try.checked) own_ started (by kernel_rfl) Try.func10
    (ChangeSpec.witness6 (enc := enc) (C := Try.checked) false ⟨#[], #[.int .u8 0, .int .u8 0, .slice none 0 0, .int .i64 0], []⟩ 8 (by kernel_rfl) (by kernel_rfl) (by kernel_rfl) (by kernel_rfl)) ?_
  intro W base args ds gs before hval hW _ _
  exact contract H enc W base args ds gs before hval hW
theorem said : Rows.GcraStaysSaid :=
  OpenClaim.holds_of_wide 10 Try.f10 rfl rfl rfl rfl rfl rfl rfl ⟨rfl, rfl, rfl, rfl, rfl⟩ rfl rfl rfl rfl rfl (by kernel_rfl) Try.func10 (by kernel_rfl)
    (of_decide_eq_true (by kernel_rfl)) (by unfold Func.isWrapper; first | (rw [if_pos (by decide +kernel)]; kernel_rfl) | (rw [if_neg (by decide +kernel)]; exact ⟨rfl, rfl⟩))
    (fun os started H enc _ => lifted os started H enc)
#print axioms said
end Go.Proofs.Ytgookddningjpaa.lawGcraStays
