/-
  GcraRate: between any two launches that are counted there are no more than the limit says.
-/
import Derived.Test.YtgookddningjpaaTieP
import Derived.Test.YtgookddningjpaaRateM
set_option linter.unusedVariables false
set_option linter.unusedSimpArgs false
namespace Go.Proofs.Ytgookddningjpaa.lawGcraRate
open Go.ChangeShapes Go.WideShapes Go.ChangeAt Go.RowKit

/-- what is known behind k rounds of the times that were counted -/
def Past (L tk : List Int) (k : Nat) : Prop := tk.length ≤ k ∧ ∀ i, i < tk.length → 1000 ≤ at_ tk i ∧ ∀ m, k ≤ m → m < L.length → at_ tk i ≤ at_ L m
theorem Past.tkOk {L tk : List Int} {k : Nat} (h : Past L tk k) (hL : StepsOk L) (hk : k < L.length) : TkOk tk (at_ L k) :=
  ⟨by have := h.1; have := hL.1; omega, fun i hi => ⟨(h.2 i hi).1, (h.2 i hi).2 k (Nat.le_refl _) hk⟩⟩
theorem Past.next {L tk : List Int} {k : Nat} (h : Past L tk k) : Past L tk (k + 1) :=
  ⟨by have := h.1; omega, fun i hi => ⟨(h.2 i hi).1, fun m hm => (h.2 i hi).2 m (by omega)⟩⟩
theorem steps_mono {L : List Int} (h : StepsOk L) {k : Nat} : ∀ m, k ≤ m → m < L.length → at_ L k ≤ at_ L m := by
  intro m hm
  induction m with
  | zero => intro _; obtain rfl : k = 0 := by omega
            exact Int.le_refl _
  | succ m ih =>
    intro hl
    rcases Nat.lt_or_ge m k with h1 | h1
    · obtain rfl : k = m + 1 := by omega
      exact Int.le_refl _
    · exact Int.le_trans (ih h1 (by omega)) (h.2.2 m hl)
theorem Past.app {L tk : List Int} {k : Nat} (h : Past L tk k) (hL : StepsOk L) (hk : k < L.length) : Past L (tk ++ [at_ L k]) (k + 1) := by
  refine ⟨by simp; exact h.1, fun i hi => ?_⟩
  simp at hi
  rcases Nat.lt_or_ge i tk.length with h1 | h1
  · rw [at_app_lt h1]
    exact ⟨(h.2 i h1).1, fun m hm => (h.2 i h1).2 m (by omega)⟩
  · obtain rfl : i = tk.length := by omega
    rw [at_app_eq]
    exact ⟨(hL.2.1 k hk).1, fun m hm hl => steps_mono hL m (by omega) hl⟩

set_option maxHeartbeats 4000000 in
theorem walk {w : World} (t : Int) (h0 : 0 ≤ t) (h1 : t ≤ 255) (u : Int) (u0 : 0 ≤ u) (u1 : u ≤ 255) (v : Value) (l : List Int) (hR : Rd w v (vI .u8 l)) (hl : ∀ x ∈ l, (Lit.int .u8 x).wf = true) :
    Calls Try.prog 5 #[.int .u8 t, .int .u8 u, v] w fun e w' => e = .returned (.bool true) ∧ G w w' := by
  have hi : (Try.prog.info? 2).map (fun i => (i.zero, i.size, i.bytes)) = some (some (.int .i64 0), 1, 8) := by kernel_rfl
  obtain ⟨i0, hi_, hz0, hz1, hz2⟩ := info_parts hi
  clear hi
  have hi := hi_
  have HS := Lib.hid hl
  have hv : validL (smT t) (smU t u) := small_valid h0 u0 u1
  have T0 : 0 ≤ smT t := by unfold smT; omega
  have T1 : smT t ≤ 31 := by unfold smT; omega
  have U0 : 0 ≤ smU t u := by unfold smU; split <;> omega
  have U1 : smU t u ≤ 255 := by unfold smU; split <;> omega
  have HV := Lib.hid hv
  have HO := Lib.hid (stepsOk l)
  clear hv hl
  go_enter Try.func5, Try.ntmps5
  go_wp2_with fail
  refine (small_any t u h0 h1 u0 u1 _).mono ?_
  rintro e w1 ⟨rfl, g1⟩
  clear h0 h1 u0 u1
  generalize smT t = T at *
  generalize smU t u = U at *
  go_wp2_with fail
  have hX := Blk.new w1 24 #[.int .i64 T, .int .i64 U]
  have gX : G w1 (w1.alloc (.cells #[.int .i64 T, .int .i64 U] 24)) := (by repeat (first | exact G.refl _ | refine G.alloc ?_ _ | refine G.drewN ?_ _ | refine G.drew ?_ | refine G.trans ?_ (by assumption)))
  refine (new_yes T U HV.out _).mono ?_
  rintro e w3 ⟨kL, rfl, hkL, g3, hL⟩
  have gW3 : G w w3 := (g1.trans gX).trans g3
  have hkw : w.heap.size ≤ kL := Nat.le_trans (g1.trans gX).size hkL
  have hXL : w1.heap.size < kL := Nat.lt_of_lt_of_le hX.lt hkL
  have hX3 := hX.g g3
  clear hX gX g1 g3 hkL
  generalize w1.heap.size = kX at hXL hX3 ⊢
  clear w1
  go_wp2_with fail
  refine (steps_any v l HS.out _ (hR.g gW3)).mono ?_
  rintro e w4 ⟨ts, rfl, g4, own4⟩
  have hRd := Rd.of_own own4
  have own4' := own4.lt
  clear own4 HS hR
  generalize upA l 1000 0 64 (min l.length 60) = L at *
  obtain ⟨a, cap, rfl, hcap, hmx, hcell⟩ := hRd
  have HB := Lib.hid own4'
  rw [vI_len] at hcap
  rw [vI_len]
  have HC := Lib.hid hcell
  clear hcell own4'
  have hL4 := hL.g g4
  have hX4 := hX3.g g4
  have gW4 := gW3.trans g4
  have hLw := hL.lt
  have hk4 : kL < w4.heap.size := hL4.lt
  clear hL hX3 gW3
  have HG4 := Lib.hid g4
  clear g4
  go_wp2_with fail
  go_loopw [10, 31] (fun tv iv wr => ∃ (k : Nat) (tk : List Int), k ≤ L.length ∧ iv = .int .i64 k ∧ w4.grownBy wr (some kL) ∧ wr.ownsRow w4.heap.size 2 1 tv tk.length (vI .i64 tk) ∧ Lim wr kL (decide (0 < tk.length)) (tatTo tk T tk.length) (lastTo tk tk.length) T U ∧ Hid (Past L tk k)) (fun _ iv _ => L.length - (intOf iv).toNat)
  case atStart => exact ⟨0, [], by omega, rfl, grown_of_G (G.refl _) _, World.ownsRow_nil _ _ _ _, hL4, (⟨by simp, fun i hi => absurd hi (by simp)⟩ : Past L [] 0)⟩
  case round =>
    obtain ⟨k, tk, hk, rfl, hg, hown, hLk, HP⟩ := hrel
    clear hL4
    by_cases hlt : k < L.length
    · obtain ⟨b, o, rfl, hc⟩ := HC.out (by rw [vI_len]; omega)
      have d0 := at_vQ hc (k := k) (by omega)
      have d0 : wr.cell? ⟨b, o + k, none⟩ = some (.int .i64 (at_ L k)) := hg.cell d0 (by intro h; cases h; exact absurd hLw (Nat.not_lt.2 (HB.out b rfl).1))
      have x0 : wr.cell? ⟨kX, 0, none⟩ = some (.int .i64 T) := hg.cell (hX4.cell 0) (by intro h; cases h; exact absurd hXL (Nat.lt_irrefl _))
      have x1 : wr.cell? ⟨kX, 1, none⟩ = some (.int .i64 U) := hg.cell (hX4.cell 1) (by intro h; cases h; exact absurd hXL (Nat.lt_irrefl _))
      have HT := Lib.hid (HP.out.tkOk HO.out hlt)
      obtain ⟨n0, n1⟩ := HO.out.2.1 k hlt
      have HN := Lib.hid (HP.out.next)
      have HA := Lib.hid (HP.out.app HO.out hlt)
      have hlk : (k : Int) < (L.length : Int) := by omega
      clear hc HP
      generalize at_ L k = now at *
      obtain ⟨A, c, hA, hcA, hmA, hcellA⟩ := Rd.of_own hown
      subst hA
      have HCA := Lib.hid hcellA
      have htl : tk.length ≤ 60 := HT.out.1
      rw [vI_len] at hcA
      rw [vI_len] at hown
      rw [vI_len]
      have hnb : (Value.slice A tk.length c).ownBlock = none ∨ (Value.slice A tk.length c).ownBlock ≠ some kL := .inr (fun e => by have := (hown.lt kL e).1; omega)
      clear hcellA
      go_wp2_with fail
      obtain ⟨wo, rfl⟩ : ∃ wo : World, wo = wr := ⟨_, rfl⟩
      go_loopw [13, 37] (fun kp jv wq => ∃ j : Nat, j ≤ tk.length ∧ jv = .int .i64 j ∧ kp = .bool (keepsTo tk T U now j) ∧ wq = wo) (fun _ jv _ => tk.length - (intOf jv).toNat)
      case atStart => exact ⟨0, by omega, rfl, rfl, rfl⟩
      case round =>
        obtain ⟨j, hj, rfl, rfl, rfl⟩ := hrel
        by_cases hjl : j < tk.length
        · obtain ⟨b2, o2, rfl, hc2⟩ := HCA.out (by rw [vI_len]; omega)
          have d1 := at_vQ hc2 (k := j) hjl
          clear hc2
          obtain ⟨y0, y1⟩ := HT.out.2 j hjl
          have hjk : (j : Int) < (tk.length : Int) := by omega
          have hK : keepsTo tk T U now (j + 1) = (keepsTo tk T U now j && condR tk T U now j) := rfl
          have HK := Lib.hid hK
          clear hK
          rcases hq : keepsTo tk T U now j with _ | _
          · go_wp2_with fail
            go_roundw
            case rel => exact ⟨j + 1, by omega, by go_num, by rw [HK.out, hq]; rfl, by trivial⟩
            case measure => simp [intOf]; omega
          · have hm0 : 0 ≤ ((tk.length : Int) - j) * T := Int.mul_nonneg (by omega) T0
            have hm1 : ((tk.length : Int) - j) * T ≤ 60 * 31 := Int.mul_le_mul (by omega) T1 T0 (by omega)
            have hw : wrap64 (((tk.length : Int) - j) * T) = ((tk.length : Int) - j) * T := by unfold wrap64; omega
            have HW := Lib.hid hw
            clear hw hm0 hm1
            go_wp2_with fail
            go_roundw
            case rel => exact ⟨j + 1, by omega, by go_num, by rw [HW.out, HK.out, hq]; rfl, by trivial⟩
            case measure => simp [intOf]; omega
        · obtain rfl : j = tk.length := by omega
          have HOK := Lib.hid (rate_okl HV.out T1 HT.out n0 n1)
          rcases hq : keepsTo tk T U now tk.length with _ | _
          · have hE : checkE (decide (0 < tk.length)) (tatTo tk T tk.length) (lastTo tk tk.length) T U now = 9 := by rw [rate_check HV.out HT.out n0 n1, if_neg (by rw [hq]; simp)]
            have HE := Lib.hid hE
            clear hE
            go_wp2_with fail
            refine (allows_any kL _ _ _ _ _ _ HOK.out _ hLk).mono ?_
            rintro e w5 ⟨rfl, g5⟩
            rw [HE.out, show ((9 : Int) == 0) = false from rfl]
            go_wp2_with fail
            refine (take_no kL _ _ _ _ _ _ HOK.out (by rw [HE.out]; decide) _ (hLk.g g5)).mono ?_
            rintro e w6 ⟨rfl, g6⟩
            rw [HE.out]
            have gk : wr.grownBy w6 (some kL) := grown_of_G (g5.trans g6) _
            have hown6 := hown.kept gk hnb
            have hg6 := grown_trans hg gk
            go_wp2_with fail
            go_roundw
            case rel => exact ⟨k + 1, tk, by omega, by go_num, hg6, hown6, hLk.g (g5.trans g6), HN.out⟩
            case measure => simp [intOf]; omega
          · have hE : checkE (decide (0 < tk.length)) (tatTo tk T tk.length) (lastTo tk tk.length) T U now = 0 := by rw [rate_check HV.out HT.out n0 n1, if_pos hq]
            have HE := Lib.hid hE
            clear hE
            go_wp2_with fail
            refine (allows_any kL _ _ _ _ _ _ HOK.out _ hLk).mono ?_
            rintro e w5 ⟨rfl, g5⟩
            rw [HE.out, show ((0 : Int) == 0) = true from rfl]
            go_wp2_with fail
            refine (take_ok kL _ _ _ _ _ _ HOK.out HE.out _ (hLk.g g5)).mono ?_
            rintro e w6 ⟨rfl, g6, hL6⟩
            have gk : wr.grownBy w6 (some kL) := grown_trans (grown_of_G g5 _) g6
            have hown6 := hown.kept gk hnb
            have hg6 := grown_trans hg gk
            have hsz := hg6.size
            go_wp2_with (at_builtin; refine wpList_append_own _ rfl _ _ 26 rfl w4.heap.size 2 i0 (.int .i64 0) 1 8 Try.underlying26 hi hz0 hz1 hz2 rfl (by decide) _ _ _ rfl (hown6.alloc _) ⟨w6.heap.size, 0, none⟩ 1 1 [.int .i64 now] rfl rfl (cell_one_new _ _ _) (by simp [Value.oneCell']) (by unfold maxLen; omega) (by omega) (by simp; omega) ?_; intro v' w7 hown' hgrow _)
            have hlt6 := (hown6.alloc (.cells #[.int .i64 now] 2)).lt
            have hg7 : w4.grownBy w7 (some kL) := grown_far (grown_trans hg6 (grown_of_G ((G.refl _).alloc _) _)) hgrow (fun r e => (hlt6 r e).1)
            have hL7 : Lim w7 kL true (max now (tatTo tk T tk.length) + T) now T U := (hL6.alloc _).grown hgrow (fun e => by have := (hlt6 kL e.symm).1; omega)
            have hL8 : Lim w7 kL (decide (0 < (tk ++ [now]).length)) (tatTo (tk ++ [now]) T (tk ++ [now]).length) (lastTo (tk ++ [now]) (tk ++ [now]).length) T U := by
              have e1 : (tk ++ [now]).length = tk.length + 1 := by simp
              have e2 : tatTo (tk ++ [now]) T (tk.length + 1) = max now (tatTo tk T tk.length) + T := by
                show max (at_ (tk ++ [now]) tk.length) (tatTo (tk ++ [now]) T tk.length) + T = _
                rw [at_app_eq, tat_app _ _ _ _ (Nat.le_refl _)]
              have e3 : lastTo (tk ++ [now]) (tk.length + 1) = now := at_app_eq tk now
              have e4 : decide (0 < tk.length + 1) = true := by simp
              rw [e1, e2, e3, e4]
              exact hL7
            rw [vI_app_] at hown'
            have hown8 : w7.ownsRow w4.heap.size 2 1 v' (tk ++ [now]).length (vI .i64 (tk ++ [now])) := by
              rw [show (tk ++ [now]).length = tk.length + 1 by simp]; exact hown'
            go_wp2_with fail
            go_roundw
            case rel => exact ⟨k + 1, tk ++ [now], by omega, by go_num, hg7, hown8, hL8, HA.out⟩
            case measure => simp [intOf]; omega
    · obtain rfl : k = L.length := by omega
      clear hi hz0 hz1 hz2 hi_
      go_wp2_with fail
      refine (works_any _).mono ?_
      rintro e w6 ⟨rfl, g6⟩
      go_wp2_with fail
      go_ret
      exact ⟨rfl, (gW4.own hg hkw).trans g6⟩
set_option maxHeartbeats 2000000 in
theorem contract (H : Type) (enc : TypeId × Value → H) (W : World) (base : Nat) (args : Array Value) (ds gs : List (DataW H)) (before : List MemPlace)
    (hval : ∀ (j : Nat) t v, Try.f5.params[j]? = some t → args[j]? = some v → Value.okWide Try.prog W .any base t v)
    (hW : DataW.Whole enc Try.prog Try.f5.params.toList Rows.gcraRateSpec.vars false W args.toList ds gs before) :
    Calls Try.prog 5 args W fun e W' => ∃ v, e = .returned v ∧ Rows.gcraRateSpec.post enc Try.prog Try.f5 false true false false W args v W' := by
  have hW' := hW
  obtain ⟨p, q, hA0, hV, rfl, hfz, hnd⟩ := hW
  have hA : DataW.TrodAll enc Try.prog W 0 (fun _ => true) true Try.f5.params.toList args.toList ds p := hA0
  rw [Try.params5] at hA hval
  obtain ⟨v0, vs0, d0, ds0, p0, q0, hargs, rfl, rfl, h0, r0⟩ := trodAll_cons hA
  obtain ⟨v1, vs1, d1, ds1, p1, q1, rfl, rfl, rfl, h1, r1⟩ := trodAll_cons r0
  obtain ⟨v2, vs2, d2, ds2, p2, q2, rfl, rfl, rfl, h2, r2⟩ := trodAll_cons r1
  obtain ⟨rfl, rfl, rfl⟩ := trodAll_nil r2
  obtain rfl : args = #[v0, v1, v2] := by cases args; simp_all
  obtain ⟨a0, rfl, rfl, rfl, w0⟩ := open_int Try.underlying5 (hval 0 5 v0 rfl rfl) h0
  simp [Lit.wf, IntKind.min, IntKind.max, IntKind.bits, IntKind.signed] at w0
  obtain ⟨a1, rfl, rfl, rfl, w1⟩ := open_int Try.underlying5 (hval 1 5 v1 rfl rfl) h1
  simp [Lit.wf, IntKind.min, IntKind.max, IntKind.bits, IntKind.signed] at w1
  obtain ⟨l2, R2, B2⟩ := open_list (k := .u8) Try.underlying22 Try.underlying5 (by kernel_rfl) (hval 2 22 v2 rfl rfl) h2
  refine (walk (w := W) a0 (by omega) (by omega) a1 (by omega) (by omega) v2 l2 R2 B2).mono fun e W' ⟨he, hg⟩ => ?_
  subst he
  exact ⟨_, rfl, law_post laidOut_ (by intro t ht; rw [Try.params5] at ht; simp at ht; rcases ht with rfl | rfl <;> exact ⟨by kernel_rfl, by decide +kernel⟩) hW' rfl rfl (by kernel_rfl) Try.underlying4 hg⟩
set_option maxRecDepth 100000 in
theorem lifted (os : Os) (started : os.Started) (H : Type) (enc : TypeId × Value → H) :
    ReturnsInHanded {} Try.checked os 5 .any (Rows.gcraRateSpec.pre6 enc Try.prog Try.f5 Rows.gcraRateRow.domain false) (Rows.gcraRateSpec.post enc Try.prog Try.f5 false true false false) := by
  refine returnsInHanded_of_change (C := Try.checked) own_ started (by kernel_rfl) Try.func5
    (ChangeSpec.witness6 (enc := enc) (C := Try.checked) false ⟨#[], #[.int .u8 0, .int .u8 0, .slice none 0 0], []⟩ 8 (by kernel_rfl) (by kernel_rfl) (by kernel_rfl) (by kernel_rfl)) ?_
  intro W base args ds gs before hval hW _ _
  exact contract H enc W base args ds gs before hval hW
theorem said : Rows.GcraRateSaid :=
  OpenClaim.holds_of_wide 5 Try.f5 rfl rfl rfl rfl rfl rfl rfl ⟨rfl, rfl, rfl, rfl, rfl⟩ rfl rfl rfl rfl rfl (by kernel_rfl) Try.func5 (by kernel_rfl)
    (of_decide_eq_true (by kernel_rfl)) (by unfold Func.isWrapper; first | (rw [if_pos (by decide +kernel)]; kernel_rfl) | (rw [if_neg (by decide +kernel)]; exact ⟨rfl, rfl⟩))
    (fun os started H enc _ => lifted os started H enc)
#print axioms said
end Go.Proofs.Ytgookddningjpaa.lawGcraRate
