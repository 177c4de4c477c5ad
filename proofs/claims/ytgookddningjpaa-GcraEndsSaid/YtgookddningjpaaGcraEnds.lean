/-
  GcraEnds: the greatest limits at the ends of time, limits that are not valid, and errors in their order.
-/
import Derived.Test.YtgookddningjpaaTieP
import Derived.Test.YtgookddningjpaaRefJ
set_option linter.unusedVariables false
set_option linter.unusedSimpArgs false
namespace Go.Proofs.Ytgookddningjpaa.lawGcraEnds
open Go.ChangeShapes Go.WideShapes Go.ChangeAt Go.RowKit

theorem madeCells_one (z : Value) (n : Nat) : madeCells #[z] (n * 1) = Array.replicate n z := by
  apply Array.ext'
  rw [Nat.mul_one, toList_madeCells_one]; simp
theorem vI_rep (n : Nat) : Array.replicate n (Value.int .i64 0) = (vI .i64 (List.replicate n 0)).toArray := by
  apply Array.ext'
  simp [vI]
theorem make_ints (n : Nat) (hn : n ≤ 281474976710656 / 8) (W : World) :
    (Instr.makeSlice 26 (.int .i64 (n : Int)) (.int .i64 (n : Int))).run Try.prog W = .ok (.slice (some ⟨W.heap.size, 0, none⟩) n n) (W.alloc (.cells (vI .i64 (List.replicate n 0)).toArray 2)) := by
  have hi : (Try.prog.info? 2).map (fun i => (i.zero, i.size, i.bytes)) = some (some (.int .i64 0), 1, 8) := by kernel_rfl
  obtain ⟨i0, hi, hz0, hz1, hz2⟩ := info_parts hi
  have h := run_make (P := Try.prog) W 26 2 i0 (.int .i64 0) Try.underlying26 hi hz0 .i64 .i64 n n (by omega) (Int.le_refl _) (by rw [hz2]; omega) (by omega)
  simp only [Int.toNat_natCast] at h
  rw [h, hz1, show (Value.int IntKind.i64 0).cells = #[Value.int .i64 0] from rfl, madeCells_one, vI_rep]
/-- many zeros, and one less; and -1 at their head -/
def zl : List Int := List.replicate 100001 0
def zl1 : List Int := List.replicate 100000 0
def zlm : List Int := zl.set 0 (-1)
def zs : Array Value := (vI .i64 zl).toArray
def zsm : Array Value := (vI .i64 zlm).toArray
theorem zl_len : zl.length = 100001 := by unfold zl; rw [List.length_replicate]
theorem zl1_len : zl1.length = 100000 := by unfold zl1; rw [List.length_replicate]
theorem zlm_len : zlm.length = 100001 := by unfold zlm; rw [List.length_set, zl_len]
theorem make_many : ∀ W : World, (Instr.makeSlice 26 (.int .i64 100001) (.int .i64 100001)).run Try.prog W = .ok (.slice (some ⟨W.heap.size, 0, none⟩) 100001 100001) (W.alloc (.cells zs 2)) :=
  fun W => make_ints 100001 (by omega) W
theorem rd_zl {w : World} {k : Nat} {t : TypeId} (h : Blk w k t zs) : Rd w (.slice (some ⟨k, 0, none⟩) 100001 100001) (vI .i64 zl) := by
  have := Rd.ints (l := zl) h (by rw [zl_len]; omega)
  rwa [zl_len] at this
theorem rd_zlm {w : World} {k : Nat} {t : TypeId} (h : Blk w k t zsm) : Rd w (.slice (some ⟨k, 0, none⟩) 100001 100001) (vI .i64 zlm) := by
  have := Rd.ints (l := zlm) h (by rw [zlm_len]; omega)
  rwa [zlm_len] at this
theorem zl_get {j : Nat} (h : j < 100001) : zl[j]? = some 0 := by unfold zl; rw [List.getElem?_replicate, if_pos h]
theorem rd_zl1 {w : World} {k : Nat} {t : TypeId} (h : Blk w k t zs) : Rd w (.slice (some ⟨k, 1, none⟩) 100000 100000) (vI .i64 zl1) := by
  have hl : (vI .i64 zl1).length = 100000 := by rw [vI_len, zl1_len]
  refine ⟨some ⟨k, 1, none⟩, 100000, by rw [hl], by rw [hl]; omega, by omega, fun _ => ⟨k, 1, rfl, fun j u hu => ?_⟩⟩
  have hj : j < 100000 := by
    rcases Nat.lt_or_ge j 100000 with h | h
    · exact h
    · rw [List.getElem?_eq_none (by rw [hl]; exact h)] at hu; cases hu
  have hu2 : u = .int .i64 0 := by
    unfold vI zl1 at hu
    rw [List.getElem?_map, List.getElem?_replicate, if_pos hj] at hu
    simpa using hu.symm
  have hc := Blk.cell h (1 + j)
  rw [hc, hu2]
  unfold zs vI
  rw [List.getElem?_toArray, List.getElem?_map, zl_get (by omega)]
  rfl
theorem zs_set : zs.setIfInBounds 0 (.int .i64 (-1)) = zsm := by
  unfold zs zsm zlm vI
  rw [List.setIfInBounds_toArray, List.map_set]
theorem zs_zero : zs[0]? = some (.int .i64 0) := by
  unfold zs vI
  rw [List.getElem?_toArray, List.getElem?_map, zl_get (by omega)]
  rfl
theorem at_rep {n k : Nat} (h : k < n) : at_ (List.replicate n 0) k = 0 := by unfold at_; simp [h]
theorem fits_many (L : List Int) (h : L.length = 100001) : fitsAll L 0 0 = (0, false, 12) := by
  unfold fitsAll
  rw [if_neg (by decide), if_pos (by omega)]
theorem fits_zero_ (n : Nat) (h : n = 100000) : fitsAll (List.replicate n 0) 0 0 = (0, false, 0) := by
  have hl : (List.replicate n (0 : Int)).length = n := List.length_replicate
  unfold fitsAll
  rw [if_neg (by decide), if_neg (by rw [hl]; omega), if_neg (by rw [hl]; intro h2; exact h2 (fun k hk => by rw [at_rep hk]; decide)), if_neg ?_]
  · have : firstE (isEarly (List.replicate n 0) 0 0) (List.replicate n (0 : Int)).length = none := firstE_none (fun j hj => by unfold isEarly earlyB; simp)
    rw [this]
  · rw [hl, sorted_le (n := n) (fun k hk => by rw [at_rep (by omega), at_rep hk]; exact Int.le_refl _) n (Nat.le_refl _)]
    simp
theorem fits_zero : fitsAll zl1 0 0 = (0, false, 0) := fits_zero_ 100000 rfl
def ends_ : Array Value := #[.int .i64 (-1), .int .i64 0, .int .i64 1, .int .i64 (-1), .int .i64 68719476737, .int .i64 0, .int .i64 1, .int .i64 68719476737, .int .i64 0, .int .i64 1, .int .i64 (-9223372036854775808), .int .i64 9223372036854775807]
theorem limit_ {w : World} {kA : Nat} (h : Blk w kA 24 ends_) {k : Nat} (hk : k < 6) : ∃ T U : Int, w.cell? ⟨kA, k * 2, none⟩ = some (.int .i64 T) ∧ w.cell? ⟨kA, k * 2 + 1, none⟩ = some (.int .i64 U) ∧ ¬ validL T U := by
  rcases (show k = 0 ∨ k = 1 ∨ k = 2 ∨ k = 3 ∨ k = 4 ∨ k = 5 by omega) with rfl | rfl | rfl | rfl | rfl | rfl
  · exact ⟨-1, 0, h.cell 0, h.cell 1, by decide⟩
  · exact ⟨1, -1, h.cell 2, h.cell 3, by decide⟩
  · exact ⟨68719476737, 0, h.cell 4, h.cell 5, by decide⟩
  · exact ⟨1, 68719476737, h.cell 6, h.cell 7, by decide⟩
  · exact ⟨0, 1, h.cell 8, h.cell 9, by decide⟩
  · exact ⟨-9223372036854775808, 9223372036854775807, h.cell 10, h.cell 11, by decide⟩
set_option maxRecDepth 4000 in
set_option maxHeartbeats 2000000 in
theorem walk {w : World} :
    Calls Try.prog 8 #[] w fun e w' => e = .returned (.bool true) ∧ G w w' := by
  go_enter Try.func8, Try.ntmps8
  go_wp2_with fail
  have hA := Blk.new w 24 ends_
  have gA : G w (w.alloc (.cells ends_ 24)) := (by repeat (first | exact G.refl _ | refine G.alloc ?_ _ | refine G.drewN ?_ _ | refine G.drew ?_ | refine G.trans ?_ (by assumption)))
  unfold ends_ at hA gA
  generalize w.alloc (.cells #[.int .i64 (-1), .int .i64 0, .int .i64 1, .int .i64 (-1), .int .i64 68719476737, .int .i64 0, .int .i64 1, .int .i64 68719476737, .int .i64 0, .int .i64 1, .int .i64 (-9223372036854775808), .int .i64 9223372036854775807] 24) = w0 at *
  generalize w.heap.size = kA at *
  go_loopw [44] (fun iv wr => ∃ k : Nat, k ≤ 6 ∧ iv = .int .i64 k ∧ G w wr ∧ Blk wr kA 24 ends_) (fun iv _ => 6 - (intOf iv).toNat)
  case atStart => exact ⟨0, by omega, rfl, gA, hA⟩
  case round =>
    clear hA gA
    obtain ⟨k, hk, rfl, hg, hA⟩ := hrel
    by_cases hlt : k < 6
    · obtain ⟨T, U, d0, d1, hbad⟩ := limit_ hA hlt
      have hki : (k : Int) < 6 := by omega
      have HB := Lib.hid hbad
      clear hbad
      have HE : Hid (burstE T U = 16) := Lib.hid (if_pos HB.out)
      have hX := Blk.new wr 24 #[.int .i64 T, .int .i64 U]
      have hA2 := hA.alloc (.cells #[.int .i64 T, .int .i64 U] 24)
      have hg2 := hg.alloc (.cells #[.int .i64 T, .int .i64 U] 24)
      go_wp2_with fail
      go_at_call 20
      refine (new_no T U HB.out _).mono ?_
      rintro e w1 ⟨rfl, g⟩
      replace hX := hX.g g
      have hA3 := hA2.g g
      have hg3 := hg2.trans g
      have x0 : w1.cell? ⟨wr.heap.size, 0, none⟩ = some (.int .i64 T) := hX.cell 0
      have x1 : w1.cell? ⟨wr.heap.size, 1, none⟩ = some (.int .i64 U) := hX.cell 1
      clear g hA2 hg2
      go_wp2_with fail
      go_at_call 23
      refine (burst_any T U _).mono ?_
      rintro e w2 ⟨rfl, g⟩
      rw [HE.out]
      replace hX := hX.g g
      have hA4 := hA3.g g
      have hg4 := hg3.trans g
      clear g hA3 hg3 x0 x1
      have x0 : w2.cell? ⟨wr.heap.size, 0, none⟩ = some (.int .i64 T) := hX.cell 0
      have x1 : w2.cell? ⟨wr.heap.size, 1, none⟩ = some (.int .i64 U) := hX.cell 1
      have z0 : (w2.alloc (.cells #[.int .i64 (-1)] 2)).cell? ⟨wr.heap.size, 0, none⟩ = some (.int .i64 T) := (hX.alloc _).cell 0
      have z1 : (w2.alloc (.cells #[.int .i64 (-1)] 2)).cell? ⟨wr.heap.size, 1, none⟩ = some (.int .i64 U) := (hX.alloc _).cell 1
      generalize burstI T U = bI at *
      go_wp2_with fail
      go_at_call 17
      refine (fits_inv _ [] T U HB.out _).mono ?_
      rintro e w3 ⟨rfl, g⟩
      have gg : G w2 w3 := by first | exact g | exact ((G.refl w2).alloc _).trans g
      go_wp2_with fail
      go_roundw
      case rel => exact ⟨k + 1, by omega, by go_num, hg4.trans gg, hA4.g gg⟩
      case measure => simp [intOf]; omega
    · obtain rfl : k = 6 := by omega
      clear hA
      have hX := Blk.new wr 24 #[.int .i64 68719476736, .int .i64 68719476736]
      have hgX := hg.alloc (.cells #[.int .i64 68719476736, .int .i64 68719476736] 24)
      go_wp2_with fail
      go_at_call 20
      refine (new_yes 68719476736 68719476736 (by decide) _).mono ?_
      rintro e w1 ⟨kL, rfl, hkL, g, hL⟩
      have hkL2 : w.heap.size ≤ kL := Nat.le_trans hgX.size hkL
      have hne : wr.heap.size ≠ kL := by simp at hkL; omega
      replace hX := hX.g g
      have hg1 := hgX.trans g
      clear g hgX hg hkL
      generalize wr.heap.size = kX at *
      go_wp2_with fail
      go_at_call 21
      refine (take_no kL false 0 0 68719476736 68719476736 253402300800 ⟨by decide, by decide, by decide, by decide⟩ (by decide) _ hL).mono ?_
      rintro e w2 ⟨rfl, g⟩
      rw [show checkE false 0 0 68719476736 68719476736 253402300800 = 14 by decide]
      replace hX := hX.g g
      have hL := hL.g g
      have hg2 := hg1.trans g
      clear g hg1
      go_wp2_with fail
      go_at_call 21
      refine (take_no kL false 0 0 68719476736 68719476736 (-1) ⟨by decide, by decide, by decide, by decide⟩ (by decide) _ hL).mono ?_
      rintro e w3 ⟨rfl, g⟩
      rw [show checkE false 0 0 68719476736 68719476736 (-1) = 14 by decide]
      replace hX := hX.g g
      have hL := hL.g g
      have hg3 := hg2.trans g
      clear g hg2
      go_wp2_with fail
      go_at_call 21
      refine (take_ok kL false 0 0 68719476736 68719476736 253402300799 ⟨by decide, by decide, by decide, by decide⟩ (by decide) _ hL).mono ?_
      rintro e w4 ⟨rfl, g, hL4⟩
      have hX4 := hX.grown g (fun e => hne (Option.some.inj e))
      have hg4 := hg3.own g hkL2
      have hL4 : Lim w4 kL true 322121777535 253402300799 68719476736 68719476736 := hL4
      clear g hg3 hL hX
      go_wp2_with fail
      go_at_call 21
      refine (take_ok kL true 322121777535 253402300799 68719476736 68719476736 253402300799 ⟨by decide, by decide, by decide, by decide⟩ (by decide) _ hL4).mono ?_
      rintro e w5 ⟨rfl, g, hL5⟩
      have hX5 := hX4.grown g (fun e => hne (Option.some.inj e))
      have hg5 := hg4.own g hkL2
      have hL5 : Lim w5 kL true 390841254271 253402300799 68719476736 68719476736 := hL5
      clear g hg4 hL4 hX4
      go_wp2_with fail
      go_at_call 21
      refine (take_no kL true 390841254271 253402300799 68719476736 68719476736 253402300799 ⟨by decide, by decide, by decide, by decide⟩ (by decide) _ hL5).mono ?_
      rintro e w6 ⟨rfl, g6⟩
      rw [show checkE true 390841254271 253402300799 68719476736 68719476736 253402300799 = 9 by decide]
      go_wp2_with fail
      go_at_call 21
      refine (take_no kL true 390841254271 253402300799 68719476736 68719476736 0 ⟨by decide, by decide, by decide, by decide⟩ (by decide) _ (hL5.g g6)).mono ?_
      rintro e w7 ⟨rfl, g7⟩
      rw [show checkE true 390841254271 253402300799 68719476736 68719476736 0 = 8 by decide]
      have g57 := g6.trans g7
      clear g6 g7
      go_wp2_with fail
      go_at_call 21
      refine (take_no kL true 390841254271 253402300799 68719476736 68719476736 (-1) ⟨by decide, by decide, by decide, by decide⟩ (by decide) _ (hL5.g g57)).mono ?_
      rintro e w8 ⟨rfl, g8⟩
      rw [show checkE true 390841254271 253402300799 68719476736 68719476736 (-1) = 14 by decide]
      have g58 := g57.trans g8
      clear g57 g8
      go_wp2_with fail
      go_at_call 29
      refine (tat_any kL _ _ _ _ _ _ (hL5.g g58)).mono ?_
      rintro e w9 ⟨rfl, g9⟩
      go_wp2_with fail
      go_at_call 28
      refine (next_any kL true 390841254271 253402300799 68719476736 68719476736 0 ⟨by decide, by decide, by decide, by decide⟩ (by decide) _ ((hL5.g g58).g g9)).mono ?_
      rintro e w10 ⟨rfl, g10⟩
      rw [show nextI true 390841254271 253402300799 68719476736 68719476736 0 = 322121777535 by decide]
      have g5x := (g58.trans g9).trans g10
      have hX10 := hX5.g g5x
      have hg10 := hg5.trans g5x
      clear g58 g9 g10 g5x hg5 hX5 hL5
      have x0 : w10.cell? ⟨kX, 0, none⟩ = some (.int .i64 68719476736) := hX10.cell 0
      have x1 : w10.cell? ⟨kX, 1, none⟩ = some (.int .i64 68719476736) := hX10.cell 1
      go_wp2_with fail
      go_at_call 23
      refine (burst_any 68719476736 68719476736 _).mono ?_
      rintro e w11 ⟨rfl, g11⟩
      rw [show burstI 68719476736 68719476736 = 2 by decide, show burstE 68719476736 68719476736 = 0 by decide]
      have hg11 := hg10.trans g11
      clear g11 hg10 hX10 x0 x1 hne hkL2
      have hmk := make_many
      go_wp2_with fail
      have hM := Blk.new w11 2 zs
      have hgM := hg11.alloc (.cells zs 2)
      have hMs : w.heap.size ≤ w11.heap.size := hg11.size
      clear hmk hg11
      generalize w11.alloc (.cells zs 2) = w12 at *
      generalize w11.heap.size = kM at *
      go_at_call 17
      refine (fits_any _ zl 0 0 _ (rd_zl hM)).mono ?_
      rintro e w13 ⟨rfl, g⟩
      rw [fits_many zl zl_len]
      replace hM := hM.g g
      have hg13 := hgM.trans g
      clear g hgM
      go_wp2_with fail
      go_at_call 17
      refine (fits_any _ zl1 0 0 _ (rd_zl1 hM)).mono ?_
      rintro e w14 ⟨rfl, g⟩
      rw [fits_zero]
      replace hM := hM.g g
      have hg14 := hg13.trans g
      have c0 : w14.cell? ⟨kM, 0, none⟩ = some (.int .i64 0) := (hM.cell 0).trans zs_zero
      have f0 := hM.frozen 0
      have hM2 := hM.set_ 0 (.int .i64 (-1))
      rw [zs_set] at hM2
      clear g hg13
      go_wp2_with fail
      go_at_call 17
      refine (fits_any _ zlm 0 0 _ (rd_zlm hM2)).mono ?_
      rintro e w15 ⟨rfl, g⟩
      rw [fits_many zlm zlm_len]
      have hg15 := (hg14.setCell (p := ⟨kM, 0, none⟩) hMs _).trans g
      clear g hg14 hM hM2 c0 f0
      go_wp2_with fail
      have hB := Blk.new w15 2 #[.int .i64 5, .int .i64 4, .int .i64 (-1)]
      go_at_call 17
      refine (fits_any _ [5, 4, -1] 0 0 _ (Rd.ints (l := [5, 4, -1]) hB (by simp))).mono ?_
      rintro e w16 ⟨rfl, g⟩
      rw [show fitsAll [5, 4, -1] 0 0 = (0, false, 14) by decide +kernel]
      have hg16 := (hg15.alloc _).trans g
      clear g hg15 hB
      go_wp2_with fail
      have hB := Blk.new w16 2 #[.int .i64 5, .int .i64 4]
      go_at_call 17
      refine (fits_any _ [5, 4] 0 0 _ (Rd.ints (l := [5, 4]) hB (by simp))).mono ?_
      rintro e w17 ⟨rfl, g⟩
      rw [show fitsAll [5, 4] 0 0 = (0, false, 8) by decide +kernel]
      have hg17 := (hg16.alloc _).trans g
      clear g hg16 hB
      go_wp2_with fail
      go_at_call 23
      refine (burst_any 0 0 _).mono ?_
      rintro e w18 ⟨rfl, g⟩
      rw [show burstE 0 0 = 5 by decide]
      have hg18 := hg17.trans g
      clear g hg17
      go_wp2_with fail
      go_at_call 19
      refine (works_any _).mono ?_
      rintro e w19 ⟨rfl, g⟩
      go_wp2_with fail
      go_ret
      exact ⟨rfl, hg18.trans g⟩
set_option maxHeartbeats 2000000 in
theorem contract (H : Type) (enc : TypeId × Value → H) (W : World) (base : Nat) (args : Array Value) (ds gs : List (DataW H)) (before : List MemPlace)
    (hval : ∀ (j : Nat) t v, Try.f8.params[j]? = some t → args[j]? = some v → Value.okWide Try.prog W .any base t v)
    (hW : DataW.Whole enc Try.prog Try.f8.params.toList Rows.gcraEndsSpec.vars false W args.toList ds gs before) :
    Calls Try.prog 8 args W fun e W' => ∃ v, e = .returned v ∧ Rows.gcraEndsSpec.post enc Try.prog Try.f8 false true false false W args v W' := by
  have hW' := hW
  obtain ⟨p, q, hA0, hV, rfl, hfz, hnd⟩ := hW
  have hA : DataW.TrodAll enc Try.prog W 0 (fun _ => true) true Try.f8.params.toList args.toList ds p := hA0
  rw [Try.params8] at hA hval
  obtain rfl : args = #[] := by rcases args with ⟨l⟩; cases l with | nil => rfl | cons a b => exact (by cases ds <;> exact hA.elim)
  obtain rfl : ds = [] := by cases ds with | nil => rfl | cons a b => exact hA.elim
  refine (walk (w := W) ).mono fun e W' ⟨he, hg⟩ => ?_
  subst he
  exact ⟨_, rfl, law_post laidOut_ (by
    intro t ht
    rw [Try.params8] at ht
    simp at ht
    skip) hW' rfl rfl (by kernel_rfl) Try.underlying4 hg⟩
set_option maxRecDepth 100000 in
theorem lifted (os : Os) (started : os.Started) (H : Type) (enc : TypeId × Value → H) :
    ReturnsInHanded {} Try.checked os 8 .any (Rows.gcraEndsSpec.pre6 enc Try.prog Try.f8 Rows.gcraEndsRow.domain false) (Rows.gcraEndsSpec.post enc Try.prog Try.f8 false true false false) := by
  refine returnsInHanded_of_change (C := Try.checked) own_ started (by kernel_rfl) Try.func8
    (ChangeSpec.witness6 (enc := enc) (C := Try.checked) false ⟨#[], #[], []⟩ 8 (by kernel_rfl) (by kernel_rfl) (by kernel_rfl) (by kernel_rfl)) ?_
  intro W base args ds gs before hval hW _ _
  exact contract H enc W base args ds gs before hval hW
theorem said : Rows.GcraEndsSaid :=
  OpenClaim.holds_of_wide 8 Try.f8 rfl rfl rfl rfl rfl rfl rfl ⟨rfl, rfl, rfl, rfl, rfl⟩ rfl rfl rfl rfl rfl (by kernel_rfl) Try.func8 (by kernel_rfl)
    (of_decide_eq_true (by kernel_rfl)) (by unfold Func.isWrapper; first | (rw [if_pos (by decide +kernel)]; kernel_rfl) | (rw [if_neg (by decide +kernel)]; exact ⟨rfl, rfl⟩))
    (fun os started H enc _ => lifted os started H enc)
#print axioms said
end Go.Proofs.Ytgookddningjpaa.lawGcraEnds
