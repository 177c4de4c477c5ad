/-
  GcraRestores: which arrival times can be restored, and how the limiter goes on, is as the document says.
-/
import Derived.Test.YtgookddningjpaaTieL
import Derived.Test.YtgookddningjpaaRefK
set_option linter.unusedVariables false
set_option linter.unusedSimpArgs false
namespace Go.Proofs.Ytgookddningjpaa.lawGcraRestores
open Go.ChangeShapes Go.WideShapes Go.ChangeAt Go.RowKit

set_option maxRecDepth 4000 in
set_option maxHeartbeats 8000000 in
theorem walk {w : World} (T U : Int) (tat : Int) (q0 : -9223372036854775808 ≤ tat) (q1 : tat ≤ 9223372036854775807) (now : Int) (o0 : -9223372036854775808 ≤ now) (o1 : now ≤ 9223372036854775807) (v : Value) (l : List Int) (hR : Rd w v (vI .i64 l)) (hl : ∀ x ∈ l, (Lit.int .i64 x).wf = true) :
    Calls Try.prog 14 #[.agg #[.int .i64 T, .int .i64 U], .int .i64 tat, .int .i64 now, v] w fun e w' => e = .returned (.bool true) ∧ G w w' := by
  clear hl
  obtain ⟨A, cap, rfl, hcap, hmax, hrd⟩ := hR
  rw [vI_len] at hcap hrd ⊢
  have HR := Lib.hid hrd
  clear hrd
  by_cases hbig : 200 < l.length
  · have hbig' : (200 : Int) < (l.length : Int) := by omega
    go_enter Try.func14, Try.ntmps14
    go_wp2_with fail
    refine (works_any _).mono ?_
    rintro e w1 ⟨rfl, g1⟩
    go_wp2_with fail
    go_ret
    exact ⟨rfl, (by repeat (first | exact G.refl _ | refine G.alloc ?_ _ | refine G.drewN ?_ _ | refine G.drew ?_ | refine G.trans ?_ (by assumption)))⟩
  · have hbig' : decide ((200 : Int) < (l.length : Int)) = false := by simp; omega
    have gX : G w (w.alloc (.cells #[.int .i64 T, .int .i64 U] 24)) := (by repeat (first | exact G.refl _ | refine G.alloc ?_ _ | refine G.drewN ?_ _ | refine G.drew ?_ | refine G.trans ?_ (by assumption)))
    by_cases hv : restE T U tat now = 0
    · have HV := Lib.hid hv
      have HF := Lib.hid (fine_re hv)
      clear hv
      go_enter Try.func14, Try.ntmps14
      go_wp2_with fail
      refine (restore_ok T U tat now HV.out _).mono ?_
      rintro e w1 ⟨kL, rfl, hkL, g1, hL⟩
      have hX1 := (Blk.new w 24 #[.int .i64 T, .int .i64 U]).g g1
      have x0 : w1.cell? ⟨w.heap.size, 0, none⟩ = some (.int .i64 T) := hX1.cell 0
      have x1 : w1.cell? ⟨w.heap.size, 1, none⟩ = some (.int .i64 U) := hX1.cell 1
      go_wp2_with fail
      refine (rrestore_ok T U tat now HV.out _).mono ?_
      rintro e w2 ⟨kR, rfl, hkR, g2, hRL⟩
      have hL2 := hL.g g2
      clear x0 x1
      go_wp2_with fail
      have hkw : w.heap.size ≤ kL := by simp at hkL; omega
      have hkRw : w.heap.size ≤ kR := Nat.le_trans (gX.trans g1).size hkR
      have hneq : kL ≠ kR := by have := hL.lt; omega
      have gW2 : G w w2 := gX.trans (g1.trans g2)
      have hlen : (l.length : Int) ≤ 200 := by omega
      clear hL g1 g2 hkL hkR hX1
      generalize reS tat = rs at *
      generalize reT tat = rt at *
      generalize reL tat now = rl at *
      go_loopw [48] (fun iv wr => ∃ (k : Nat) (som : Bool) (ta last : Int), k ≤ l.length ∧ iv = .int .i64 k ∧ G w wr ∧ Lim wr kL som ta last T U ∧ RLim wr kR som ta last T U ∧ Hid (Fine som ta last T U)) (fun iv _ => l.length - (intOf iv).toNat)
      case atStart => exact ⟨0, rs, rt, rl, by omega, rfl, gW2, hL2, hRL, HF⟩
      case round =>
        clear hL2 hRL gW2 HF
        obtain ⟨k, som, ta, last, hk, rfl, hgq, hLq, hRq, HFk⟩ := hrel
        by_cases hlt : k < l.length
        · obtain ⟨b, o, rfl, hc⟩ := HR.out (by omega)
          have d0 := at_vI hc (k := k) hlt
          have d0 := hgq.cell (World.block_lt_of_cell? w _ d0) d0
          clear hc
          generalize at_ l k = x at *
          go_wp2_with fail
          refine (agree_any kL kR _ _ _ _ _ x HFk.out _ hLq hRq).mono ?_
          rintro e v1 ⟨rfl, g1⟩
          go_wp2_with fail
          refine (take_gen kL _ _ _ _ _ x HFk.out.1 _ (hLq.g g1)).mono ?_
          rintro e v2 ⟨rfl, g2, hL2⟩
          have hR2 := (hRq.g g1).grown g2 (fun e => hneq (Option.some.inj e).symm)
          go_wp2_with fail
          refine (rtake_gen kR _ _ _ _ _ x HFk.out.1 HFk.out.2.1 _ hR2).mono ?_
          rintro e v3 ⟨rfl, g3, hR3⟩
          have hL3 := hL2.grown g3 (fun e => hneq (Option.some.inj e))
          have hg3 := ((hgq.trans g1).own g2 hkw).own g3 hkRw
          have HFn := Lib.hid (HFk.out.tk x)
          clear hLq hRq hgq g1 g2 hL2 hR2 g3 HFk
          generalize checkE som ta last T U x = ce at *
          go_wp2_with fail
          go_roundw
          case rel => exact ⟨k + 1, _, _, _, by omega, by go_num, hg3, hL3, hR3, HFn⟩
          case measure => simp [intOf]; omega
        · obtain rfl : k = l.length := by omega
          go_wp2_with fail
          refine (agree_any kL kR _ _ _ _ _ now HFk.out _ hLq hRq).mono ?_
          rintro e v1 ⟨rfl, g1⟩
          go_wp2_with fail
          refine (works_any _).mono ?_
          rintro e w6 ⟨rfl, g6⟩
          go_wp2_with fail
          go_ret
          exact ⟨rfl, (hgq.trans g1).trans g6⟩
    · have b0 : (restE T U tat now == 0) = false := by simpa using hv
      have b1 : (restE T U tat now != 0) = true := by simpa using hv
      have HV := Lib.hid hv
      clear hv
      go_enter Try.func14, Try.ntmps14
      go_wp2_with fail
      refine (restore_fail T U tat now HV.out _).mono ?_
      rintro e w1 ⟨rfl, g1⟩
      have hX1 := (Blk.new w 24 #[.int .i64 T, .int .i64 U]).g g1
      have x0 : w1.cell? ⟨w.heap.size, 0, none⟩ = some (.int .i64 T) := hX1.cell 0
      have x1 : w1.cell? ⟨w.heap.size, 1, none⟩ = some (.int .i64 U) := hX1.cell 1
      go_wp2_with fail
      refine (rrestore_fail T U tat now HV.out _).mono ?_
      rintro e w2 ⟨rfl, g2⟩
      go_wp2_with fail
      refine (works_any _).mono ?_
      rintro e w3 ⟨rfl, g3⟩
      go_wp2_with fail
      go_ret
      exact ⟨rfl, (by repeat (first | exact G.refl _ | refine G.alloc ?_ _ | refine G.drewN ?_ _ | refine G.drew ?_ | refine G.trans ?_ (by assumption)))⟩
set_option maxHeartbeats 2000000 in
theorem contract (H : Type) (enc : TypeId × Value → H) (W : World) (base : Nat) (args : Array Value) (ds gs : List (DataW H)) (before : List MemPlace)
    (hval : ∀ (j : Nat) t v, Try.f14.params[j]? = some t → args[j]? = some v → Value.okWide Try.prog W .any base t v)
    (hW : DataW.Whole enc Try.prog Try.f14.params.toList Rows.gcraRestoresSpec.vars false W args.toList ds gs before) :
    Calls Try.prog 14 args W fun e W' => ∃ v, e = .returned v ∧ Rows.gcraRestoresSpec.post enc Try.prog Try.f14 false true false false W args v W' := by
  have hW' := hW
  obtain ⟨p, q, hA0, hV, rfl, hfz, hnd⟩ := hW
  have hA : DataW.TrodAll enc Try.prog W 0 (fun _ => true) true Try.f14.params.toList args.toList ds p := hA0
  rw [Try.params14] at hA hval
  obtain ⟨v0, vs0, d0, ds0, p0, q0, hargs, rfl, rfl, h0, r0⟩ := trodAll_cons hA
  obtain ⟨v1, vs1, d1, ds1, p1, q1, rfl, rfl, rfl, h1, r1⟩ := trodAll_cons r0
  obtain ⟨v2, vs2, d2, ds2, p2, q2, rfl, rfl, rfl, h2, r2⟩ := trodAll_cons r1
  obtain ⟨v3, vs3, d3, ds3, p3, q3, rfl, rfl, rfl, h3, r3⟩ := trodAll_cons r2
  obtain ⟨rfl, rfl, rfl⟩ := trodAll_nil r3
  obtain rfl : args = #[v0, v1, v2, v3] := by cases args; simp_all
  obtain ⟨a0, b0, rfl⟩ := open_limit (hval 0 24 v0 rfl rfl) h0
  obtain ⟨a1, rfl, rfl, rfl, w1⟩ := open_int Try.underlying2 (hval 1 2 v1 rfl rfl) h1
  simp [Lit.wf, IntKind.min, IntKind.max, IntKind.bits, IntKind.signed] at w1
  obtain ⟨a2, rfl, rfl, rfl, w2⟩ := open_int Try.underlying2 (hval 2 2 v2 rfl rfl) h2
  simp [Lit.wf, IntKind.min, IntKind.max, IntKind.bits, IntKind.signed] at w2
  obtain ⟨l3, R3, B3⟩ := open_list (k := .i64) Try.underlying26 Try.underlying2 (by kernel_rfl) (hval 3 26 v3 rfl rfl) h3
  refine (walk (w := W) a0 b0 a1 (by omega) (by omega) a2 (by omega) (by omega) v3 l3 R3 B3).mono fun e W' ⟨he, hg⟩ => ?_
  subst he
  exact ⟨_, rfl, law_post laidOut_ (by intro t ht; rw [Try.params14] at ht; simp at ht; rcases ht with rfl | rfl | rfl <;> exact ⟨by kernel_rfl, by decide +kernel⟩) hW' rfl rfl (by kernel_rfl) Try.underlying4 hg⟩
set_option maxRecDepth 100000 in
theorem lifted (os : Os) (started : os.Started) (H : Type) (enc : TypeId × Value → H) :
    ReturnsInHanded {} Try.checked os 14 .any (Rows.gcraRestoresSpec.pre6 enc Try.prog Try.f14 Rows.gcraRestoresRow.domain false) (Rows.gcraRestoresSpec.post enc Try.prog Try.f14 false true false false) := by
  refine returnsInHanded_of_change (C := Try.checked) own_ started (by kernel_rfl) Try.func14
    (ChangeSpec.witness6 (enc := enc) (C := Try.checked) false ⟨#[], #[.agg #[.int .i64 0, .int .i64 0], .int .i64 0, .int .i64 0, .slice none 0 0], []⟩ 8 (by kernel_rfl) (by kernel_rfl) (by kernel_rfl) (by kernel_rfl)) ?_
  intro W base args ds gs before hval hW _ _
  exact contract H enc W base args ds gs before hval hW
theorem said : Rows.GcraRestoresSaid :=
  OpenClaim.holds_of_wide 14 Try.f14 rfl rfl rfl rfl rfl rfl rfl ⟨rfl, rfl, rfl, rfl, rfl⟩ rfl rfl rfl rfl rfl (by kernel_rfl) Try.func14 (by kernel_rfl)
    (of_decide_eq_true (by kernel_rfl)) (by unfold Func.isWrapper; first | (rw [if_pos (by decide +kernel)]; kernel_rfl) | (rw [if_neg (by decide +kernel)]; exact ⟨rfl, rfl⟩))
    (fun os started H enc _ => lifted os started H enc)
#print axioms said
end Go.Proofs.Ytgookddningjpaa.lawGcraRestores
