/-
  GcraFits: the first launch that is not allowed is as the document says, or the error is; the times stay.
-/
import Derived.Test.YtgookddningjpaaTieL
import Derived.Test.YtgookddningjpaaGcW
import Derived.Test.YtgookddningjpaaRefL
import Derived.Test.YtgookddningjpaaRep
import Derived.Maps.AppendAt
set_option linter.unusedVariables false
set_option linter.unusedSimpArgs false
namespace Go.Proofs.Ytgookddningjpaa.lawGcraFits
open Go.ChangeShapes Go.WideShapes Go.ChangeAt Go.RowKit

theorem info_i64r : (Try.prog.info? 2).map (fun i => (i.zero, i.size, i.bytes)) = some (some (.int .i64 0), 1, 8) := by kernel_rfl
theorem own_zero {w : World} {k base : Nat} {t : TypeId} (h : Blk w k t #[]) (hb : base ≤ k) : w.ownsRow base t 1 (.slice (some ⟨k, 0, none⟩) 0 0) 0 [] :=
  ⟨rfl, .inr ⟨k, 0, #[], rfl, hb, h, by omega, by decide, rfl, rfl⟩⟩
set_option maxHeartbeats 2000000 in
theorem clone_any (l : List Int) (v : Value) (w : World) (hR : Rd w v (vI .i64 l)) (hl : l.length ≤ 120000) :
    Calls Try.prog 36 #[v] w fun e w' => ∃ v', e = .returned v' ∧ Rd w' v' (vI .i64 l) ∧ G w w' := by
  obtain ⟨A, c, rfl, hc, hcm, hd⟩ := hR
  rw [vI_len] at hc hd ⊢
  obtain ⟨i0, hi, hz0, hz1, hz2⟩ := info_parts info_i64r
  cases A with
  | none =>
    obtain rfl : l = [] := by
      cases l with
      | nil => rfl
      | cons x l =>
        obtain ⟨b, o, e, -⟩ := hd (by simp)
        cases e
    clear hd
    have he : ∀ w : World, (binOp .eql 26 (.slice none 0 c) (.slice none 0 0)).run Try.prog w = .ok (.bool true) w := fun _ => by kernel_rfl
    go_enter Try.func36, Try.ntmps36
    go_wp2_with fail
    go_ret
    exact ⟨_, rfl, Rd.nil _, (by repeat (first | exact G.refl _ | refine G.alloc ?_ _ | refine G.drewN ?_ _ | refine G.drew ?_ | refine G.trans ?_ (by assumption)))⟩
  | some ad =>
    obtain ⟨m, hm⟩ : ∃ m, l.length = m := ⟨_, rfl⟩
    have hlen : (vI .i64 l).length = m * 1 := by rw [vI_len, hm, Nat.mul_one]
    have hcell : ∀ j u, (vI .i64 l)[j]? = some u → w.cell? (ad.add j) = some u := fun j u hu => by
      have hj : j < (vI .i64 l).length := by
        rcases Nat.lt_or_ge j (vI .i64 l).length with h | h
        · exact h
        · rw [List.getElem?_eq_none h] at hu; cases hu
      rw [vI_len] at hj
      obtain ⟨b, o, e, hc⟩ := hd (by omega)
      cases e
      rw [Go.WideShapes.add_plain]
      exact hc j u hu
    have hone : ∀ u ∈ vI .i64 l, u.oneCell' = true := fun u hu => by
      unfold vI at hu
      rw [List.mem_map] at hu
      obtain ⟨x, -, rfl⟩ := hu
      rfl
    rw [hm] at hc hl ⊢
    have HC := Lib.hid hcell
    have HL := Lib.hid hlen
    clear hd hcell hlen
    obtain ⟨L, hL⟩ : ∃ L, vI .i64 l = L := ⟨_, rfl⟩
    rw [hL] at HC HL hone ⊢
    clear hL hm
    have he : ∀ w : World, (binOp .eql 26 (.slice (some ad) m c) (.slice none 0 0)).run Try.prog w = .ok (.bool false) w := fun _ => by kernel_rfl
    go_enter Try.func36, Try.ntmps36
    have hB := Blk.new w 2 #[]
    have gB : G w (w.alloc (.cells #[] 2)) := (G.refl w).alloc _
    have HO := Lib.hid (own_zero hB (Nat.le_refl _))
    have HC2 : Hid (∀ j u, L[j]? = some u → (w.alloc (.cells #[] 2)).cell? (ad.add j) = some u) := Lib.hid (fun j u hu => by
      have h := HC.out j u hu
      have hb := World.block_lt_of_cell? w _ h
      rw [World.cell?_alloc_lt _ _ _ hb]
      exact h)
    go_wp2_with (at_builtin; refine wpList_append_own _ rfl _ _ 26 rfl w.heap.size 2 i0 (.int .i64 0) 1 8 Try.underlying26 hi hz0 hz1 hz2 rfl (by decide) _ _ _ rfl HO.out ad m c L rfl HL.out HC2.out hone (by unfold maxLen; omega) (by omega) (by simp) ?_; intro v' w3 hown' hgrow _)
    go_ret
    refine ⟨_, rfl, ?_, gB.grown hgrow (fun r e => (HO.out.lt r e).1)⟩
    have := Rd.of_own hown'
    simpa using this

theorem rfits_any (v : Value) (l : List Int) (T Tau : Int) (w : World) (hR : Rd w v (vI .i64 l)) :
    Calls Try.prog 37 #[.agg #[.int .i64 T, .int .i64 Tau], v] w fun e w' => e = .returned (.tuple #[.int .i64 (fitsAll l T Tau).1, .bool (fitsAll l T Tau).2.1, .int .i64 (fitsAll l T Tau).2.2]) ∧ G w w' := by
  by_cases hv : validL T Tau
  · exact rfits_val v l T Tau hv w hR
  · have e : fitsAll l T Tau = (0, false, 16) := by unfold fitsAll; rw [if_pos hv]
    rw [e]
    exact rfits_inv v l T Tau hv w

set_option maxRecDepth 4000 in
set_option maxHeartbeats 3200000 in
theorem walk {w : World} (T U : Int) (v : Value) (l : List Int) (hR : Rd w v (vI .i64 l)) (hl : ∀ x ∈ l, (Lit.int .i64 x).wf = true) (a : Int) (a0 : 0 ≤ a) (a1 : a ≤ 65535) :
    Calls Try.prog 15 #[.agg #[.int .i64 T, .int .i64 U], v, .int .u16 a] w fun e w' => e = .returned (.bool true) ∧ G w w' := by
  clear hl
  have HRR := Lib.hid hR
  obtain ⟨A, cap, rfl, hcap, hmax, hrd⟩ := hR
  rw [vI_len] at hcap hrd HRR ⊢
  clear hrd
  by_cases hbig : 300 < l.length
  · have hbig' : (300 : Int) < (l.length : Int) := by omega
    go_enter Try.func15, Try.ntmps15
    go_wp2_with fail
    refine (works_any _).mono ?_
    rintro e w1 ⟨rfl, g1⟩
    go_wp2_with fail
    go_ret
    exact ⟨rfl, (by repeat (first | exact G.refl _ | refine G.alloc ?_ _ | refine G.drewN ?_ _ | refine G.drew ?_ | refine G.trans ?_ (by assumption)))⟩
  · have hbig' : decide ((300 : Int) < (l.length : Int)) = false := by simp; omega
    have hl3 : l.length ≤ 300 := by omega
    obtain ⟨n, rfl⟩ : ∃ n : Nat, a = n := ⟨a.toNat, by omega⟩
    obtain ⟨c, hc⟩ : ∃ c : Nat, 1 + n % 400 = c := ⟨_, rfl⟩
    have hcc : IntKind.i64.wrap (1 + (n : Int) % 400) = (c : Int) := by rw [IntKind.wrap_i64]; omega
    have hnw : IntKind.i64.wrap (n : Int) = n := by rw [IntKind.wrap_i64]; omega
    by_cases hn : n = 0
    · have hn0 : (n == 0) = true := by simpa using hn
      have hn1 : ((n : Int) == 0) = true := by simp; omega
      clear hn
      go_enter Try.func15, Try.ntmps15
      have gX : G w (w.alloc (.cells #[.int .i64 T, .int .i64 U] 24)) := (G.refl w).alloc _
      have hX := Blk.new w 24 #[.int .i64 T, .int .i64 U]
      go_wp2_with fail
      go_at_call 35
      refine (repeat_any l c _ hl3 (by omega) (by omega) _ (HRR.out.g gX)).mono ?_
      rintro e w1 ⟨v1, L1, rfl, hL1, R1, g1⟩
      replace hX := hX.g g1
      replace gX := gX.trans g1
      clear g1
      go_wp2_with fail
      clear hL1 R1
      go_at_call 36
      refine (clone_any l _ _ (HRR.out.g gX) (by omega)).mono ?_
      rintro e w0 ⟨v0, rfl, R1, g1⟩
      replace hX := hX.g g1
      replace gX := gX.trans g1
      clear g1
      have hL1 : l.length ≤ 120000 := by omega
      clear L1
      go_wp2_with fail
      go_at_call 36
      refine (clone_any l _ _ R1 hL1).mono ?_
      rintro e w2 ⟨v2, rfl, R2, g2⟩
      replace R1 := R1.g g2
      replace hX := hX.g g2
      replace gX := gX.trans g2
      clear g2
      have x0 : w2.cell? ⟨w.heap.size, 0, none⟩ = some (.int .i64 T) := hX.cell 0
      have x1 : w2.cell? ⟨w.heap.size, 1, none⟩ = some (.int .i64 U) := hX.cell 1
      go_wp2_with fail
      go_at_call 17
      refine (fits_any _ l _ _ _ R1).mono ?_
      rintro e w3 ⟨rfl, g3⟩
      generalize hFF : fitsAll l T U = FF
      have HFF := Lib.hid hFF
      clear hFF x0 x1
      obtain ⟨F1, F2, F3⟩ := FF
      replace R1 := R1.g g3
      replace R2 := R2.g g3
      replace hX := hX.g g3
      replace gX := gX.trans g3
      clear g3
      have x0 : w3.cell? ⟨w.heap.size, 0, none⟩ = some (.int .i64 T) := hX.cell 0
      have x1 : w3.cell? ⟨w.heap.size, 1, none⟩ = some (.int .i64 U) := hX.cell 1
      go_wp2_with fail
      go_at_call 37
      refine (rfits_any _ l _ _ _ R2).mono ?_
      rintro e w4 ⟨rfl, g4⟩
      rw [HFF.out]
      replace R1 := R1.g g4
      replace R2 := R2.g g4
      replace gX := gX.trans g4
      clear g4 x0 x1 hX HFF
      have KR1 := Lib.hid R1
      have KR2 := Lib.hid R2
      clear R1 R2
      go_wp2_with fail
      go_at_call 38
      refine (equal_i64 l _ _ _ KR2.out KR1.out).mono ?_
      rintro e w5 ⟨rfl, g5⟩
      go_wp2_with fail
      refine (works_any _).mono ?_
      rintro e w6 ⟨rfl, g6⟩
      go_wp2_with fail
      go_ret
      exact ⟨rfl, gX.trans (g5.trans g6)⟩
    · have hn0 : (n == 0) = false := by simpa using hn
      have hn1 : ((n : Int) == 0) = false := by simp; omega
      clear hn
      go_enter Try.func15, Try.ntmps15
      have gX : G w (w.alloc (.cells #[.int .i64 T, .int .i64 U] 24)) := (G.refl w).alloc _
      have hX := Blk.new w 24 #[.int .i64 T, .int .i64 U]
      go_wp2_with fail
      go_at_call 35
      refine (repeat_any l c _ hl3 (by omega) (by omega) _ (HRR.out.g gX)).mono ?_
      rintro e w1 ⟨v1, L1, rfl, hL1, R1, g1⟩
      replace hX := hX.g g1
      replace gX := gX.trans g1
      clear g1
      go_wp2_with fail
      go_at_call 36
      refine (clone_any L1 _ _ R1 hL1).mono ?_
      rintro e w2 ⟨v2, rfl, R2, g2⟩
      replace R1 := R1.g g2
      replace hX := hX.g g2
      replace gX := gX.trans g2
      clear g2
      have x0 : w2.cell? ⟨w.heap.size, 0, none⟩ = some (.int .i64 T) := hX.cell 0
      have x1 : w2.cell? ⟨w.heap.size, 1, none⟩ = some (.int .i64 U) := hX.cell 1
      go_wp2_with fail
      go_at_call 17
      refine (fits_any _ L1 _ _ _ R1).mono ?_
      rintro e w3 ⟨rfl, g3⟩
      generalize hFF : fitsAll L1 T U = FF
      have HFF := Lib.hid hFF
      clear hFF x0 x1
      obtain ⟨F1, F2, F3⟩ := FF
      replace R1 := R1.g g3
      replace R2 := R2.g g3
      replace hX := hX.g g3
      replace gX := gX.trans g3
      clear g3
      have x0 : w3.cell? ⟨w.heap.size, 0, none⟩ = some (.int .i64 T) := hX.cell 0
      have x1 : w3.cell? ⟨w.heap.size, 1, none⟩ = some (.int .i64 U) := hX.cell 1
      go_wp2_with fail
      go_at_call 37
      refine (rfits_any _ L1 _ _ _ R2).mono ?_
      rintro e w4 ⟨rfl, g4⟩
      rw [HFF.out]
      replace R1 := R1.g g4
      replace R2 := R2.g g4
      replace gX := gX.trans g4
      clear g4 x0 x1 hX HFF
      have KR1 := Lib.hid R1
      have KR2 := Lib.hid R2
      clear R1 R2
      go_wp2_with fail
      go_at_call 38
      refine (equal_i64 L1 _ _ _ KR2.out KR1.out).mono ?_
      rintro e w5 ⟨rfl, g5⟩
      go_wp2_with fail
      refine (works_any _).mono ?_
      rintro e w6 ⟨rfl, g6⟩
      go_wp2_with fail
      go_ret
      exact ⟨rfl, gX.trans (g5.trans g6)⟩
set_option maxRecDepth 4000 in
set_option maxHeartbeats 2000000 in
theorem contract (H : Type) (enc : TypeId × Value → H) (W : World) (base : Nat) (args : Array Value) (ds gs : List (DataW H)) (before : List MemPlace)
    (hval : ∀ (j : Nat) t v, Try.f15.params[j]? = some t → args[j]? = some v → Value.okWide Try.prog W .any base t v)
    (hW : DataW.Whole enc Try.prog Try.f15.params.toList Rows.gcraFitsSpec.vars false W args.toList ds gs before) :
    Calls Try.prog 15 args W fun e W' => ∃ v, e = .returned v ∧ Rows.gcraFitsSpec.post enc Try.prog Try.f15 false true false false W args v W' := by
  have hW' := hW
  obtain ⟨p, q, hA0, hV, rfl, hfz, hnd⟩ := hW
  have hA : DataW.TrodAll enc Try.prog W 0 (fun _ => true) true Try.f15.params.toList args.toList ds p := hA0
  rw [Try.params15] at hA hval
  obtain ⟨v0, vs0, d0, ds0, p0, q0, hargs, rfl, rfl, h0, r0⟩ := trodAll_cons hA
  obtain ⟨v1, vs1, d1, ds1, p1, q1, rfl, rfl, rfl, h1, r1⟩ := trodAll_cons r0
  obtain ⟨v2, vs2, d2, ds2, p2, q2, rfl, rfl, rfl, h2, r2⟩ := trodAll_cons r1
  obtain ⟨rfl, rfl, rfl⟩ := trodAll_nil r2
  obtain rfl : args = #[v0, v1, v2] := by first | exact Array.ext' hargs | (cases args; simp_all)
  obtain ⟨a0, b0, rfl⟩ := open_limit (hval 0 24 v0 rfl rfl) h0
  obtain ⟨l1, R1, B1⟩ := open_list (k := .i64) Try.underlying26 Try.underlying2 (by kernel_rfl) (hval 1 26 v1 rfl rfl) h1
  obtain ⟨a2, rfl, rfl, rfl, w2⟩ := open_int Try.underlying51 (hval 2 51 v2 rfl rfl) h2
  simp [Lit.wf, IntKind.min, IntKind.max, IntKind.bits, IntKind.signed] at w2
  refine (walk (w := W) a0 b0 v1 l1 R1 B1 a2 (by omega) (by omega)).mono fun e W' ⟨he, hg⟩ => ?_
  subst he
  exact ⟨_, rfl, law_post laidOut_ (by
    intro t ht
    rw [Try.params15] at ht
    simp at ht
    rcases ht with rfl | rfl | rfl <;> exact ⟨by kernel_rfl, by decide +kernel⟩) hW' rfl rfl (by kernel_rfl) Try.underlying4 hg⟩
set_option maxRecDepth 100000 in
theorem lifted (os : Os) (started : os.Started) (H : Type) (enc : TypeId × Value → H) :
    ReturnsInHanded {} Try.checked os 15 .any (Rows.gcraFitsSpec.pre6 enc Try.prog Try.f15 Rows.gcraFitsRow.domain false) (Rows.gcraFitsSpec.post enc Try.prog Try.f15 false true false false) := by
  refine returnsInHanded_of_change (C := Try.checked) own_ started (by kernel_rfl) Try.func15
    (ChangeSpec.witness6 (enc := enc) (C := Try.checked) false ⟨#[], #[.agg #[.int .i64 0, .int .i64 0], .slice none 0 0, .int .u16 0], []⟩ 8 (by kernel_rfl) (by kernel_rfl) (by kernel_rfl) (by kernel_rfl)) ?_
  intro W base args ds gs before hval hW _ _
  exact contract H enc W base args ds gs before hval hW
theorem said : Rows.GcraFitsSaid :=
  OpenClaim.holds_of_wide 15 Try.f15 rfl rfl rfl rfl rfl rfl rfl ⟨rfl, rfl, rfl, rfl, rfl⟩ rfl rfl rfl rfl rfl (by kernel_rfl) Try.func15 (by kernel_rfl)
    (of_decide_eq_true (by kernel_rfl)) (by unfold Func.isWrapper; first | (rw [if_pos (by decide +kernel)]; kernel_rfl) | (rw [if_neg (by decide +kernel)]; exact ⟨rfl, rfl⟩))
    (fun os started H enc _ => lifted os started H enc)
#print axioms said
end Go.Proofs.Ytgookddningjpaa.lawGcraFits
