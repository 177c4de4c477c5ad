/-
  GcraPlays: launches at any times are counted, or refused, as the document says; also by a copy.
-/
import Derived.Test.YtgookddningjpaaTieL
import Derived.Test.YtgookddningjpaaRefJ
set_option linter.unusedVariables false
set_option linter.unusedSimpArgs false
namespace Go.Proofs.Ytgookddningjpaa.lawGcraPlays
open Go.ChangeShapes Go.WideShapes Go.ChangeAt Go.RowKit

set_option maxRecDepth 4000 in
set_option maxHeartbeats 8000000 in
theorem walk {w : World} (T U : Int) (v : Value) (l : List Int) (hR : Rd w v (vI .i64 l)) (hl : ∀ x ∈ l, (Lit.int .i64 x).wf = true) (a : Int) (a0 : 0 ≤ a) (a1 : a ≤ 255) :
    Calls Try.prog 11 #[.agg #[.int .i64 T, .int .i64 U], v, .int .u8 a] w fun e w' => e = .returned (.bool true) ∧ G w w' := by
  clear hl
  obtain ⟨A, cap, rfl, hcap, hmax, hrd⟩ := hR
  rw [vI_len] at hcap hrd ⊢
  have HR := Lib.hid hrd
  clear hrd
  by_cases hbig : 200 < l.length
  · have hbig' : (200 : Int) < (l.length : Int) := by omega
    go_enter Try.func11, Try.ntmps11
    go_wp2_with fail
    refine (works_any _).mono ?_
    rintro e w1 ⟨rfl, g1⟩
    go_wp2_with fail
    go_ret
    exact ⟨rfl, (by repeat (first | exact G.refl _ | refine G.alloc ?_ _ | refine G.drewN ?_ _ | refine G.drew ?_ | refine G.trans ?_ (by assumption)))⟩
  · have hbig' : decide ((200 : Int) < (l.length : Int)) = false := by simp; omega
    have gX : G w (w.alloc (.cells #[.int .i64 T, .int .i64 U] 24)) := (by repeat (first | exact G.refl _ | refine G.alloc ?_ _ | refine G.drewN ?_ _ | refine G.drew ?_ | refine G.trans ?_ (by assumption)))
    by_cases hv : validL T U
    · have HV := Lib.hid hv
      clear hv
      go_enter Try.func11, Try.ntmps11
      go_wp2_with fail
      refine (new_yes T U HV.out _).mono ?_
      rintro e w1 ⟨kL, rfl, hkL, g1, hL⟩
      have hX1 := (Blk.new w 24 #[.int .i64 T, .int .i64 U]).g g1
      have x0 : w1.cell? ⟨w.heap.size, 0, none⟩ = some (.int .i64 T) := hX1.cell 0
      have x1 : w1.cell? ⟨w.heap.size, 1, none⟩ = some (.int .i64 U) := hX1.cell 1
      go_wp2_with fail
      refine (rnew_yes T U HV.out _).mono ?_
      rintro e w2 ⟨kR, rfl, hkR, g2, hRL⟩
      have hL2 := hL.g g2
      clear x0 x1
      go_wp2_with fail
      have hkw : w.heap.size ≤ kL := by simp at hkL; omega
      have hkRw : w.heap.size ≤ kR := Nat.le_trans (gX.trans g1).size hkR
      have hneq : kL ≠ kR := by have := hL.lt; omega
      have gW2 : G w w2 := gX.trans (g1.trans g2)
      have HF := Lib.hid (Fine.new HV.out)
      have hlen : (l.length : Int) ≤ 200 := by omega
      clear hL g1 g2 hkL hkR hX1
      go_loopw [7, 43] (fun gv iv wr => ∃ (k gb : Nat) (som : Bool) (tat last : Int), k ≤ l.length ∧ iv = .int .i64 k ∧ gv = .pointer (some ⟨gb, 0, none⟩) ∧ w.heap.size ≤ gb ∧ gb ≠ kR ∧ G w wr ∧ Lim wr gb som tat last T U ∧ RLim wr kR som tat last T U ∧ Hid (Fine som tat last T U)) (fun _ iv _ => l.length - (intOf iv).toNat)
      case atStart => exact ⟨0, kL, false, 0, 0, by omega, rfl, rfl, hkw, hneq, gW2, hL2, hRL, HF⟩
      case round =>
        clear hL2 hRL gW2 hneq HF
        obtain ⟨k, gb, som, tat, last, hk, rfl, rfl, hgbq, hneq, hgq, hLq, hRq, HFk⟩ := hrel
        by_cases hlt : k < l.length
        · obtain ⟨b, o, rfl, hc⟩ := HR.out (by omega)
          have d0 := at_vI hc (k := k) hlt
          have d0 := hgq.cell (World.block_lt_of_cell? w _ d0) d0
          clear hc
          generalize at_ l k = now at *
          by_cases hat : (k : Int) = a
          · have hat' : ((k : Int) == a) = true := by simpa using hat
            clear hat
            go_wp2_with fail
            refine (copy_any gb _ _ _ _ _ _ hLq).mono ?_
            rintro e w5 ⟨rfl, rfl⟩
            have hC5 := Blk.new wr 60 #[.bool som, .int .i64 tat, .int .i64 last, .int .i64 T, .int .i64 U, .bool true]
            have hL5 := hLq.alloc (.cells #[.bool som, .int .i64 tat, .int .i64 last, .int .i64 T, .int .i64 U, .bool true] 60)
            have hR5 := hRq.alloc (.cells #[.bool som, .int .i64 tat, .int .i64 last, .int .i64 T, .int .i64 U, .bool true] 60)
            have hg5 := hgq.alloc (.cells #[.bool som, .int .i64 tat, .int .i64 last, .int .i64 T, .int .i64 U, .bool true] 60)
            have hne2 : wr.heap.size ≠ kR := by have := hRq.lt; omega
            have hne3 : wr.heap.size ≠ gb := by have := hLq.lt; omega
            have hsz := hgq.size
            clear hLq hRq hgq d0
            generalize (wr.alloc (.cells #[.bool som, .int .i64 tat, .int .i64 last, .int .i64 T, .int .i64 U, .bool true] 60)) = w5 at *
            generalize wr.heap.size = kC at *
            go_wp2_with fail
            refine (agree_any gb kR _ _ _ _ _ now HFk.out _ hL5 hR5).mono ?_
            rintro e v1 ⟨rfl, g1⟩
            go_wp2_with fail
            refine (take_gen gb _ _ _ _ _ now HFk.out.1 _ (hL5.g g1)).mono ?_
            rintro e v2 ⟨rfl, g2, -⟩
            have hRq := (hR5.g g1).grown g2 (fun e => hneq (Option.some.inj e).symm)
            have hLq : Lim v2 kC som tat last T U := Blk.grown (Blk.g hC5 g1) g2 (fun e => hne3 (Option.some.inj e))
            have hgq := (hg5.trans g1).own g2 hgbq
            clear hgbq hneq hne3 hL5 hR5 hC5 hg5 g1 g2
            have hneq := hne2
            have hgbq := hsz
            clear hne2 hsz
            go_wp2_with fail
            refine (agree_any kC kR _ _ _ _ _ now HFk.out _ hLq hRq).mono ?_
            rintro e v1 ⟨rfl, g1⟩
            go_wp2_with fail
            refine (take_gen kC _ _ _ _ _ now HFk.out.1 _ (hLq.g g1)).mono ?_
            rintro e v2 ⟨rfl, g2, hL2⟩
            have hR2 := (hRq.g g1).grown g2 (fun e => hneq (Option.some.inj e).symm)
            go_wp2_with fail
            refine (rtake_gen kR _ _ _ _ _ now HFk.out.1 HFk.out.2.1 _ hR2).mono ?_
            rintro e v3 ⟨rfl, g3, hR3⟩
            have hL3 := hL2.grown g3 (fun e => hneq (Option.some.inj e))
            have hg3 := ((hgq.trans g1).own g2 hgbq).own g3 hkRw
            have HFn := Lib.hid (HFk.out.tk now)
            clear hLq hRq hgq g1 g2 hL2 hR2 g3 HFk
            generalize checkE som tat last T U now = ce at *
            generalize tkS som tat last T U now = som' at *
            generalize tkT som tat last T U now = tat' at *
            generalize tkL som tat last T U now = last' at *
            go_wp2_with fail
            refine (agree_any kC kR _ _ _ _ _ now HFn.out _ hL3 hR3).mono ?_
            rintro e v4 ⟨rfl, g4⟩
            go_wp2_with fail
            go_roundw
            case rel => exact ⟨k + 1, kC, som', tat', last', by omega, by go_num, rfl, hgbq, hneq, hg3.trans g4, hL3.g g4, hR3.g g4, HFn⟩
            case measure => simp [intOf]; omega
          · have hat' : ((k : Int) == a) = false := by simpa using hat
            clear hat
            go_wp2_with fail
            refine (agree_any gb kR _ _ _ _ _ now HFk.out _ hLq hRq).mono ?_
            rintro e v1 ⟨rfl, g1⟩
            go_wp2_with fail
            refine (take_gen gb _ _ _ _ _ now HFk.out.1 _ (hLq.g g1)).mono ?_
            rintro e v2 ⟨rfl, g2, hL2⟩
            have hR2 := (hRq.g g1).grown g2 (fun e => hneq (Option.some.inj e).symm)
            go_wp2_with fail
            refine (rtake_gen kR _ _ _ _ _ now HFk.out.1 HFk.out.2.1 _ hR2).mono ?_
            rintro e v3 ⟨rfl, g3, hR3⟩
            have hL3 := hL2.grown g3 (fun e => hneq (Option.some.inj e))
            have hg3 := ((hgq.trans g1).own g2 hgbq).own g3 hkRw
            have HFn := Lib.hid (HFk.out.tk now)
            clear hLq hRq hgq g1 g2 hL2 hR2 g3 HFk
            generalize checkE som tat last T U now = ce at *
            generalize tkS som tat last T U now = som' at *
            generalize tkT som tat last T U now = tat' at *
            generalize tkL som tat last T U now = last' at *
            go_wp2_with fail
            refine (agree_any gb kR _ _ _ _ _ now HFn.out _ hL3 hR3).mono ?_
            rintro e v4 ⟨rfl, g4⟩
            go_wp2_with fail
            go_roundw
            case rel => exact ⟨k + 1, gb, som', tat', last', by omega, by go_num, rfl, hgbq, hneq, hg3.trans g4, hL3.g g4, hR3.g g4, HFn⟩
            case measure => simp [intOf]; omega
        · obtain rfl : k = l.length := by omega
          go_wp2_with fail
          refine (works_any _).mono ?_
          rintro e w6 ⟨rfl, g6⟩
          go_wp2_with fail
          go_ret
          exact ⟨rfl, hgq.trans g6⟩
    · have HV := Lib.hid hv
      clear hv
      go_enter Try.func11, Try.ntmps11
      go_wp2_with fail
      refine (new_no T U HV.out _).mono ?_
      rintro e w1 ⟨rfl, g1⟩
      have hX1 := (Blk.new w 24 #[.int .i64 T, .int .i64 U]).g g1
      have x0 : w1.cell? ⟨w.heap.size, 0, none⟩ = some (.int .i64 T) := hX1.cell 0
      have x1 : w1.cell? ⟨w.heap.size, 1, none⟩ = some (.int .i64 U) := hX1.cell 1
      go_wp2_with fail
      refine (rnew_no T U HV.out _).mono ?_
      rintro e w2 ⟨rfl, g2⟩
      go_wp2_with fail
      refine (works_any _).mono ?_
      rintro e w3 ⟨rfl, g3⟩
      go_wp2_with fail
      go_ret
      exact ⟨rfl, (by repeat (first | exact G.refl _ | refine G.alloc ?_ _ | refine G.drewN ?_ _ | refine G.drew ?_ | refine G.trans ?_ (by assumption)))⟩
set_option maxHeartbeats 2000000 in
theorem contract (H : Type) (enc : TypeId × Value → H) (W : World) (base : Nat) (args : Array Value) (ds gs : List (DataW H)) (before : List MemPlace)
    (hval : ∀ (j : Nat) t v, Try.f11.params[j]? = some t → args[j]? = some v → Value.okWide Try.prog W .any base t v)
    (hW : DataW.Whole enc Try.prog Try.f11.params.toList Rows.gcraPlaysSpec.vars false W args.toList ds gs before) :
    Calls Try.prog 11 args W fun e W' => ∃ v, e = .returned v ∧ Rows.gcraPlaysSpec.post enc Try.prog Try.f11 false true false false W args v W' := by
  have hW' := hW
  obtain ⟨p, q, hA0, hV, rfl, hfz, hnd⟩ := hW
  have hA : DataW.TrodAll enc Try.prog W 0 (fun _ => true) true Try.f11.params.toList args.toList ds p := hA0
  rw [Try.params11] at hA hval
  obtain ⟨v0, vs0, d0, ds0, p0, q0, hargs, rfl, rfl, h0, r0⟩ := trodAll_cons hA
  obtain ⟨v1, vs1, d1, ds1, p1, q1, rfl, rfl, rfl, h1, r1⟩ := trodAll_cons r0
  obtain ⟨v2, vs2, d2, ds2, p2, q2, rfl, rfl, rfl, h2, r2⟩ := trodAll_cons r1
  obtain ⟨rfl, rfl, rfl⟩ := trodAll_nil r2
  obtain rfl : args = #[v0, v1, v2] := by cases args; simp_all
  obtain ⟨a0, b0, rfl⟩ := open_limit (hval 0 24 v0 rfl rfl) h0
  obtain ⟨l1, R1, B1⟩ := open_list (k := .i64) Try.underlying26 Try.underlying2 (by kernel_rfl) (hval 1 26 v1 rfl rfl) h1
  obtain ⟨a2, rfl, rfl, rfl, w2⟩ := open_int Try.underlying5 (hval 2 5 v2 rfl rfl) h2
  simp [Lit.wf, IntKind.min, IntKind.max, IntKind.bits, IntKind.signed] at w2
  refine (walk (w := W) a0 b0 v1 l1 R1 B1 a2 (by omega) (by omega)).mono fun e W' ⟨he, hg⟩ => ?_
  subst he
  exact ⟨_, rfl, law_post laidOut_ (by intro t ht; rw [Try.params11] at ht; simp at ht; rcases ht with rfl | rfl | rfl <;> exact ⟨by kernel_rfl, by decide +kernel⟩) hW' rfl rfl (by kernel_rfl) Try.underlying4 hg⟩
set_option maxRecDepth 100000 in
theorem lifted (os : Os) (started : os.Started) (H : Type) (enc : TypeId × Value → H) :
    ReturnsInHanded {} Try.checked os 11 .any (Rows.gcraPlaysSpec.pre6 enc Try.prog Try.f11 Rows.gcraPlaysRow.domain false) (Rows.gcraPlaysSpec.post enc Try.prog Try.f11 false true false false) := by
  refine returnsInHanded_of_change (C := Try.checked) own_ started (by kernel_rfl) Try.func11
    (ChangeSpec.witness6 (enc := enc) (C := Try.checked) false ⟨#[], #[.agg #[.int .i64 0, .int .i64 0], .slice none 0 0, .int .u8 0], []⟩ 8 (by kernel_rfl) (by kernel_rfl) (by kernel_rfl) (by kernel_rfl)) ?_
  intro W base args ds gs before hval hW _ _
  exact contract H enc W base args ds gs before hval hW
theorem said : Rows.GcraPlaysSaid :=
  OpenClaim.holds_of_wide 11 Try.f11 rfl rfl rfl rfl rfl rfl rfl ⟨rfl, rfl, rfl, rfl, rfl⟩ rfl rfl rfl rfl rfl (by kernel_rfl) Try.func11 (by kernel_rfl)
    (of_decide_eq_true (by kernel_rfl)) (by unfold Func.isWrapper; first | (rw [if_pos (by decide +kernel)]; kernel_rfl) | (rw [if_neg (by decide +kernel)]; exact ⟨rfl, rfl⟩))
    (fun os started H enc _ => lifted os started H enc)
#print axioms said
end Go.Proofs.Ytgookddningjpaa.lawGcraPlays
