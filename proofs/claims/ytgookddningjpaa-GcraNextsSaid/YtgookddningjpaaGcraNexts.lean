/-
  GcraNexts: at the time that Next says a launch is allowed, and at none from now on before it.
-/
import Derived.Test.YtgookddningjpaaTieP
import Derived.Test.YtgookddningjpaaGcT
set_option linter.unusedVariables false
set_option linter.unusedSimpArgs false
namespace Go.Proofs.Ytgookddningjpaa.lawGcraNexts
open Go.ChangeShapes Go.WideShapes Go.ChangeAt Go.RowKit

/-- a limiter's numbers behind any launches up to the time 4840 -/
def Fine (som : Bool) (tat last T U : Int) : Prop := validL T U ∧ T ≤ 31 ∧ U ≤ 255 ∧ (0 ≤ tat ∧ tat ≤ 4840 + 31 * 60) ∧ (0 ≤ last ∧ last ≤ 4840)
theorem Fine.okl {som : Bool} {tat last T U : Int} (h : Fine som tat last T U) : Okl tat last T U :=
  ⟨h.1.1, h.1.2.1, ⟨h.2.2.2.1.1, by have := h.2.2.2.1.2; omega⟩, ⟨h.2.2.2.2.1, by have := h.2.2.2.2.2; omega⟩⟩
/-- behind k launches the arrival time is at most so great -/
def FineK (k : Nat) (som : Bool) (tat last T U : Int) : Prop := validL T U ∧ T ≤ 31 ∧ U ≤ 255 ∧ (0 ≤ tat ∧ tat ≤ 4840 + 31 * k) ∧ (0 ≤ last ∧ last ≤ 4840)
theorem FineK.fine {k : Nat} {som : Bool} {tat last T U : Int} (h : FineK k som tat last T U) (hk : k ≤ 60) : Fine som tat last T U := by
  obtain ⟨a, b, c, ⟨d, e⟩, f⟩ := h
  exact ⟨a, b, c, ⟨d, by omega⟩, f⟩
theorem FineK.same {k : Nat} {som : Bool} {tat last T U : Int} (h : FineK k som tat last T U) : FineK (k + 1) som tat last T U := by
  obtain ⟨a, b, c, ⟨d, e⟩, f⟩ := h
  exact ⟨a, b, c, ⟨d, by omega⟩, f⟩
theorem FineK.take {k : Nat} {som : Bool} {tat last T U now : Int} (h : FineK k som tat last T U) (n0 : 1000 ≤ now) (n1 : now ≤ 4840) : FineK (k + 1) true (max now tat + T) now T U := by
  obtain ⟨a, b, c, ⟨d, e⟩, f⟩ := h
  have := a.1.1
  exact ⟨a, b, c, ⟨by omega, by omega⟩, by omega, n1⟩
theorem next_bounds {som : Bool} {tat last T U now : Int} (h : Fine som tat last T U) (n0 : 0 ≤ now) (n1 : now ≤ 65535) : now ≤ nextI som tat last T U now ∧ nextI som tat last T U now ≤ 70000 := by
  obtain ⟨a, b, c, ⟨d, e⟩, f⟩ := h
  unfold nextI
  split
  · omega
  · split
    · rename_i h1 h2
      unfold earlyB at h2
      simp at h2
      have := a.2.1.1
      omega
    · omega
theorem next_allowed {som : Bool} {tat last T U now : Int} (h : Fine som tat last T U) (n0 : 0 ≤ now) (n1 : now ≤ 65535) : checkE som tat last T U (nextI som tat last T U now) = 0 := by
  have hb := next_bounds h n0 n1
  unfold checkE
  rw [if_neg (by have : isT (nextI som tat last T U now) := ⟨by omega, by omega⟩; simpa using this)]
  cases som with
  | false => simp [earlyB]
  | true =>
    have key : nextI true tat last T U now = if earlyB true tat T U (max now last) = true then tat - U else max now last := by
      unfold nextI; rw [if_neg (by simp)]
    rw [key]
    by_cases h2 : earlyB true tat T U (max now last) = true
    · rw [if_pos h2]
      have h3 : earlyB true tat T U (tat - U) = false := by
        unfold earlyB; rw [decide_eq_false (p := tat - U < tat - U) (by omega)]; simp
      unfold earlyB at h2
      simp at h2
      rw [if_neg (by intro h; have := h.2; omega), h3, if_neg (by simp)]
    · rw [if_neg h2, if_neg (by intro h; have := h.2; omega), if_neg h2]
theorem before_not {som : Bool} {tat last T U now x : Int} (h : Fine som tat last T U) (n0 : 0 ≤ now) (hx0 : now ≤ x) (hx1 : x < nextI som tat last T U now) : checkE som tat last T U x ≠ 0 := by
  unfold checkE
  split
  · decide
  · cases som with
    | false =>
      unfold nextI at hx1
      rw [if_pos rfl] at hx1
      omega
    | true =>
      unfold nextI at hx1
      rw [if_neg (by simp)] at hx1
      split
      · decide
      · rename_i h1 h2
        split
        · decide
        · rename_i h3
          exfalso
          simp only [true_and] at h2
          split at hx1
          · rename_i h4
            unfold earlyB at h3 h4
            simp at h3 h4
            have := h3 h4.1
            omega
          · omega

set_option maxHeartbeats 4000000 in
theorem walk {w : World} (t : Int) (h0 : 0 ≤ t) (h1 : t ≤ 255) (u : Int) (u0 : 0 ≤ u) (u1 : u ≤ 255) (v : Value) (l : List Int) (hR : Rd w v (vI .u8 l)) (hl : ∀ x ∈ l, (Lit.int .u8 x).wf = true) (now : Int) (n0 : 0 ≤ now) (n1 : now ≤ 65535) :
    Calls Try.prog 9 #[.int .u8 t, .int .u8 u, v, .int .u16 now] w fun e w' => e = .returned (.bool true) ∧ G w w' := by
  have HS := Lib.hid hl
  have hv : validL (smT t) (smU t u) := small_valid h0 u0 u1
  have T1 : smT t ≤ 31 := by unfold smT; omega
  have U1 : smU t u ≤ 255 := by unfold smU; split <;> omega
  have HO := Lib.hid (stepsOk l)
  have HF : Hid (FineK 0 false 0 0 (smT t) (smU t u)) := Lib.hid ⟨hv, T1, U1, by omega, by omega⟩
  have HV := Lib.hid hv
  clear hv hl T1 U1
  go_enter Try.func9, Try.ntmps9
  go_wp2_with fail
  refine (small_any t u h0 h1 u0 u1 _).mono ?_
  rintro e w1 ⟨rfl, g1⟩
  clear h0 h1 u0 u1
  generalize smT t = T at *
  generalize smU t u = U at *
  go_wp2_with fail
  refine (new_yes T U HV.out _).mono ?_
  rintro e w3 ⟨kL, rfl, hkL, g3, hL⟩
  have gW3 : G w w3 := g1.trans g3
  have hkw : w.heap.size ≤ kL := Nat.le_trans g1.size hkL
  clear g1 g3 hkL w1
  go_wp2_with fail
  refine (steps_any v l HS.out _ (hR.g gW3)).mono ?_
  rintro e w4 ⟨ts, rfl, g4, own4⟩
  have hRd := Rd.of_own own4
  have own4' := own4.lt
  clear own4 HS hR
  generalize upA l 1000 0 64 (min l.length 60) = L at *
  obtain ⟨a, cap, rfl, hcap, hmx, hcell⟩ := hRd
  have HB := Lib.hid own4'
  rw [vI_len] at hcap
  rw [vI_len]
  have HC := Lib.hid hcell
  clear hcell own4'
  have hL4 := hL.g g4
  have gW4 := gW3.trans g4
  have hLw := hL.lt
  clear hL gW3 g4
  go_wp2_with fail
  go_loopw [28] (fun iv wr => ∃ (k : Nat) (som : Bool) (tat last : Int), k ≤ L.length ∧ iv = .int .i64 k ∧ w4.grownBy wr (some kL) ∧ Lim wr kL som tat last T U ∧ Hid (FineK k som tat last T U)) (fun iv _ => L.length - (intOf iv).toNat)
  case atStart => exact ⟨0, false, 0, 0, by omega, rfl, grown_of_G (G.refl _) _, hL4, HF⟩
  case round =>
    obtain ⟨k, som, tat, last, hk, rfl, hg, hLk, HFk⟩ := hrel
    clear hL4
    have hl60 : L.length ≤ 60 := HO.out.1
    by_cases hlt : k < L.length
    · obtain ⟨b, o, rfl, hc⟩ := HC.out (by rw [vI_len]; omega)
      have d0 := at_vQ hc (k := k) (by omega)
      have d0 : wr.cell? ⟨b, o + k, none⟩ = some (.int .i64 (at_ L k)) := hg.cell d0 (by intro h; cases h; exact absurd hLw (Nat.not_lt.2 (HB.out b rfl).1))
      obtain ⟨m0, m1⟩ := HO.out.2.1 k hlt
      have HT := Lib.hid (HFk.out.take m0 m1)
      have HOK := Lib.hid (HFk.out.fine (by omega)).okl
      have hlk : (k : Int) < (L.length : Int) := by omega
      clear hc
      generalize at_ L k = x at *
      by_cases hce : checkE som tat last T U x = 0
      · have HCE := Lib.hid hce
        clear hce
        go_wp2_with fail
        refine (take_ok kL _ _ _ _ _ _ HOK.out HCE.out _ hLk).mono ?_
        rintro e w5 ⟨rfl, g5, hL5⟩
        go_wp2_with fail
        go_roundw
        case rel => exact ⟨k + 1, true, _, _, by omega, by go_num, grown_trans hg g5, hL5, HT⟩
        case measure => simp [intOf]; omega
      · have HCE := Lib.hid hce
        clear hce
        go_wp2_with fail
        refine (take_no kL _ _ _ _ _ _ HOK.out HCE.out _ hLk).mono ?_
        rintro e w5 ⟨rfl, g5⟩
        go_wp2_with fail
        go_roundw
        case rel => exact ⟨k + 1, som, tat, last, by omega, by go_num, grown_trans hg (grown_of_G g5 _), hLk.g g5, Lib.hid HFk.out.same⟩
        case measure => simp [intOf]; omega
    · obtain rfl : k = L.length := by omega
      have hF := HFk.out.fine hl60
      have HOK := Lib.hid hF.okl
      have hnow : isT now := ⟨by omega, by omega⟩
      have HT := Lib.hid hnow
      have hb := next_bounds hF n0 n1
      have HAL := Lib.hid (next_allowed hF n0 n1)
      have HBN := Lib.hid (fun x => before_not (x := x) hF n0)
      obtain ⟨b0, b1⟩ := hb
      have gW5 := gW4.own hg hkw
      clear hF hnow HFk HF hg
      go_wp2_with fail
      refine (next_any kL _ _ _ _ _ _ HOK.out HT.out _ hLk).mono ?_
      rintro e w5 ⟨rfl, g5⟩
      generalize hN : nextI som tat last T U now = N at *
      clear hN
      have c1 : decide (N < now) = false := by simp; omega
      go_wp2_with fail
      refine (allows_any kL _ _ _ _ _ _ HOK.out _ (hLk.g g5)).mono ?_
      rintro e w6 ⟨rfl, g6⟩
      rw [HAL.out, show ((0 : Int) == 0) = true from rfl]
      have g56 := (gW5.trans g5).trans g6
      have hL6 := (hLk.g g5).g g6
      clear g5 g6 hLk gW5
      go_wp2_with fail
      all_goals (
        go_loopw [15] (fun iv wq => ∃ x : Int, iv = .int .i64 x ∧ now ≤ x ∧ x ≤ N ∧ G w wq ∧ Lim wq kL som tat last T U) (fun iv _ => (N - intOf iv).toNat)
        case atStart => exact ⟨_, rfl, by omega, by omega, g56, hL6⟩
        case round =>
          obtain ⟨x, rfl, xa, xb, gq, hLq⟩ := hrel
          clear g56 hL6
          by_cases hxN : x < N
          · have hcf : (checkE som tat last T U x == 0) = false := by simpa using HBN.out x xa hxN
            have HCF := Lib.hid hcf
            clear hcf
            go_wp2_with fail
            refine (allows_any kL _ _ _ _ _ _ HOK.out _ hLq).mono ?_
            rintro e w7 ⟨rfl, g7⟩
            rw [HCF.out]
            go_wp2_with fail
            go_roundw
            case rel => exact ⟨x + 1, by go_num, by omega, by omega, gq.trans g7, hLq.g g7⟩
            case measure => simp [intOf]; omega
          · have hxe : decide (x < N) = false := by simp; omega
            go_wp2_with fail
            refine (works_any _).mono ?_
            rintro e w8 ⟨rfl, g8⟩
            go_wp2_with fail
            go_ret
            exact ⟨rfl, gq.trans g8⟩)
set_option maxHeartbeats 2000000 in
theorem contract (H : Type) (enc : TypeId × Value → H) (W : World) (base : Nat) (args : Array Value) (ds gs : List (DataW H)) (before : List MemPlace)
    (hval : ∀ (j : Nat) t v, Try.f9.params[j]? = some t → args[j]? = some v → Value.okWide Try.prog W .any base t v)
    (hW : DataW.Whole enc Try.prog Try.f9.params.toList Rows.gcraNextsSpec.vars false W args.toList ds gs before) :
    Calls Try.prog 9 args W fun e W' => ∃ v, e = .returned v ∧ Rows.gcraNextsSpec.post enc Try.prog Try.f9 false true false false W args v W' := by
  have hW' := hW
  obtain ⟨p, q, hA0, hV, rfl, hfz, hnd⟩ := hW
  have hA : DataW.TrodAll enc Try.prog W 0 (fun _ => true) true Try.f9.params.toList args.toList ds p := hA0
  rw [Try.params9] at hA hval
  obtain ⟨v0, vs0, d0, ds0, p0, q0, hargs, rfl, rfl, h0, r0⟩ := trodAll_cons hA
  obtain ⟨v1, vs1, d1, ds1, p1, q1, rfl, rfl, rfl, h1, r1⟩ := trodAll_cons r0
  obtain ⟨v2, vs2, d2, ds2, p2, q2, rfl, rfl, rfl, h2, r2⟩ := trodAll_cons r1
  obtain ⟨v3, vs3, d3, ds3, p3, q3, rfl, rfl, rfl, h3, r3⟩ := trodAll_cons r2
  obtain ⟨rfl, rfl, rfl⟩ := trodAll_nil r3
  obtain rfl : args = #[v0, v1, v2, v3] := by cases args; simp_all
  obtain ⟨a0, rfl, rfl, rfl, w0⟩ := open_int Try.underlying5 (hval 0 5 v0 rfl rfl) h0
  simp [Lit.wf, IntKind.min, IntKind.max, IntKind.bits, IntKind.signed] at w0
  obtain ⟨a1, rfl, rfl, rfl, w1⟩ := open_int Try.underlying5 (hval 1 5 v1 rfl rfl) h1
  simp [Lit.wf, IntKind.min, IntKind.max, IntKind.bits, IntKind.signed] at w1
  obtain ⟨l2, R2, B2⟩ := open_list (k := .u8) Try.underlying22 Try.underlying5 (by kernel_rfl) (hval 2 22 v2 rfl rfl) h2
  obtain ⟨a3, rfl, rfl, rfl, w3⟩ := open_int Try.underlying51 (hval 3 51 v3 rfl rfl) h3
  simp [Lit.wf, IntKind.min, IntKind.max, IntKind.bits, IntKind.signed] at w3
  refine (walk (w := W) a0 (by omega) (by omega) a1 (by omega) (by omega) v2 l2 R2 B2 a3 (by omega) (by omega)).mono fun e W' ⟨he, hg⟩ => ?_
  subst he
  exact ⟨_, rfl, law_post laidOut_ (by intro t ht; rw [Try.params9] at ht; simp at ht; rcases ht with rfl | rfl | rfl <;> exact ⟨by kernel_rfl, by decide +kernel⟩) hW' rfl rfl (by kernel_rfl) Try.underlying4 hg⟩
set_option maxRecDepth 100000 in
theorem lifted (os : Os) (started : os.Started) (H : Type) (enc : TypeId × Value → H) :
    ReturnsInHanded {} Try.checked os 9 .any (Rows.gcraNextsSpec.pre6 enc Try.prog Try.f9 Rows.gcraNextsRow.domain false) (Rows.gcraNextsSpec.post enc Try.prog Try.f9 false true false false) := by
  refine returnsInHanded_of_change (C := Try.checked) own_ started (by kernel_rfl) Try.func9
    (ChangeSpec.witness6 (enc := enc) (C := Try.checked) false ⟨#[], #[.int .u8 0, .int .u8 0, .slice none 0 0, .int .u16 0], []⟩ 8 (by kernel_rfl) (by kernel_rfl) (by kernel_rfl) (by kernel_rfl)) ?_
  intro W base args ds gs before hval hW _ _
  exact contract H enc W base args ds gs before hval hW
theorem said : Rows.GcraNextsSaid :=
  OpenClaim.holds_of_wide 9 Try.f9 rfl rfl rfl rfl rfl rfl rfl ⟨rfl, rfl, rfl, rfl, rfl⟩ rfl rfl rfl rfl rfl (by kernel_rfl) Try.func9 (by kernel_rfl)
    (of_decide_eq_true (by kernel_rfl)) (by unfold Func.isWrapper; first | (rw [if_pos (by decide +kernel)]; kernel_rfl) | (rw [if_neg (by decide +kernel)]; exact ⟨rfl, rfl⟩))
    (fun os started H enc _ => lifted os started H enc)
#print axioms said
end Go.Proofs.Ytgookddningjpaa.lawGcraNexts
