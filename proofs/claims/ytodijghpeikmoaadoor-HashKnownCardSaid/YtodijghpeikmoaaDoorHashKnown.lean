/-
  HashKnown: the examples of the chapter, the limits, and errors in their order.
  Conditions: none beyond the row's own (the table of package mix as the program's text lays it).
-/
import Derived.Test.YtodijghpeikmoaaDoorTieM
import Derived.Test.YtodijghpeikmoaaDoorHsU
import Derived.Deep.RegionHeld3
set_option linter.unusedVariables false
set_option linter.unusedSimpArgs false
namespace Go.Proofs.YtodijghpeikmoaaDoor.lawHashKnown
open Go.ChangeShapes Go.WideShapes Go.ChangeAt Go.RowKit

def tN : ByteArray := ⟨#[110]⟩
/-- the 65 names while they are being written -/
def flS (i : Nat) : List ByteArray := (List.range 65).map (fun j => if j < i then ⟨#[110]⟩ else ⟨#[]⟩)
theorem flS_len (i : Nat) : (flS i).length = 65 := by simp [flS]
theorem flS_zero : Array.replicate 65 (Value.string ⟨#[]⟩) = (vS (flS 0)).toArray := by
  apply Array.ext'
  rw [Array.toList_replicate]
  rfl
theorem flS_set (i : Nat) (h : i < 65) : (vS (flS i)).toArray.setIfInBounds i (.string ⟨#[110]⟩) = (vS (flS (i + 1))).toArray := by
  apply Array.ext'
  rw [Array.toList_setIfInBounds]
  simp only [vS, flS, List.map_map]
  apply List.ext_getElem?
  intro k
  rw [List.getElem?_set]
  simp only [List.length_map, List.length_range, List.getElem?_map]
  by_cases hk : k < 65
  · rw [List.getElem?_range hk]
    by_cases e : i = k
    · subst e
      simp [h]
    · simp only [e, if_false, Option.map_some, Function.comp]
      by_cases h2 : k < i
      · rw [if_pos h2, if_pos (by omega)]
      · rw [if_neg h2, if_neg (by omega)]
  · rw [List.getElem?_eq_none (by simpa using hk)]
    by_cases e : i = k
    · omega
    · simp [e]
theorem flS_all : flS 65 = List.replicate 65 ⟨#[110]⟩ := by decide
theorem many_chk : chkH (flS 65) = 12 := by decide +kernel
theorem n64_chk : chkH (List.replicate 64 ⟨#[110]⟩) = 0 := by decide +kernel
theorem k1 : spE [⟨#[97]⟩] 1 = 0 := by decide +kernel
theorem k2 : spE [⟨#[97]⟩] 0 = 0 := by decide +kernel
theorem k3 : spE [⟨#[97]⟩] (-1) = 2 := by decide +kernel
theorem k4 : spE [⟨#[]⟩] (-1) = 15 := by decide +kernel
theorem k5 : spE (flS 65) (-1) = 12 := by decide +kernel
theorem k6 : spE (List.replicate 64 ⟨#[110]⟩) 68719476736 = 0 := by decide +kernel
theorem k7 : spE [⟨#[97]⟩] 68719476737 = 2 := by decide +kernel
theorem k8 : bkE (flS 65) 0 = 12 := by decide +kernel
theorem k9 : bkE [⟨#[97]⟩, ⟨#[45, 95, 46]⟩, ⟨#[98]⟩] 0 = 15 := by decide +kernel
theorem k10 : bkE [⟨#[97]⟩] 0 = 2 := by decide +kernel
theorem k11 : bkE [⟨#[97]⟩] 65 = 2 := by decide +kernel
theorem k12 : bkE [] 64 = 0 := by decide +kernel
theorem v1 (a : Int) : spV a 1 ⟨#[97]⟩ = 0 := by
  unfold spV
  rw [if_pos k1]
  exact place_one a _
theorem v2 (a : Int) : spV a 0 ⟨#[97]⟩ = 0 := by
  unfold spV
  rw [if_pos k2]
  exact place_one a _
theorem l6 (a : Int) : spL a 68719476736 (List.replicate 64 ⟨#[110]⟩) = List.replicate 64 (placeI a 68719476736 ⟨#[110]⟩) := by
  unfold spL
  rw [if_pos k6, show max (68719476736 : Int) 1 = 68719476736 from rfl]
  unfold plL
  rw [List.map_replicate]
theorem l12 (a : Int) : (bkL [] a 64).length = 64 := by
  unfold bkL
  rw [if_pos k12, cntL_len]
  rfl
theorem s1 : sumS ⟨#[]⟩ = 14695981039346656037 := by decide +kernel
theorem s2 : sumS ⟨#[97]⟩ = 12638187200555641996 := by decide +kernel
theorem u5 : u64 5 := ⟨by decide, by decide⟩
theorem rd_many {w : World} {k : Nat} (h : Blk w k 9 (vS (flS 65)).toArray) : Rd w (.slice (some ⟨k, 0, none⟩) 65 65) (vS (flS 65)) := Rd.blk h (by decide)
theorem rd_64 {w : World} {k : Nat} (h : Blk w k 9 (vS (flS 65)).toArray) : Rd w (.slice (some ⟨k, 0, none⟩) 64 65) (vS (List.replicate 64 ⟨#[110]⟩)) := by
  refine ⟨some ⟨k, 0, none⟩, 65, rfl, by decide, by decide, fun _ => ⟨k, 0, rfl, fun j u hu => ?_⟩⟩
  rw [Nat.zero_add, h.cell]
  have hj : j < 64 := by
    rcases Nat.lt_or_ge j 64 with h | h
    · exact h
    · rw [List.getElem?_eq_none (by simpa [vS] using h)] at hu
      cases hu
  rw [flS_all, List.getElem?_toArray]
  simp only [vS, List.map_replicate, List.getElem?_replicate, if_pos hj] at hu ⊢
  rw [if_pos (by omega)]
  exact hu
theorem make_strs (W : World) :
    (Instr.makeSlice 22 (.int .i64 65) (.int .i64 65)).run Tryd.prog W = .ok (.slice (some ⟨W.heap.size, 0, none⟩) 65 65) (W.alloc (.cells (vS (flS 0)).toArray 9)) := by
  have hi : (Tryd.prog.info? 9).map (fun i => (i.zero, i.size, i.bytes)) = some (some (.string ⟨#[]⟩), 1, 16) := by kernel_rfl
  obtain ⟨i0, hi, hz0, hz1, hz2⟩ := info_parts hi
  have h := run_make (P := Tryd.prog) W 22 9 i0 (.string ⟨#[]⟩) Tryd.underlying22 hi hz0 .i64 .i64 65 65 (by omega) (Int.le_refl _) (by rw [hz2]; decide) (by omega)
  rw [h, hz1, show (Value.string ⟨#[]⟩).cells = #[Value.string ⟨#[]⟩] from rfl]
  rw [show (65 : Int).toNat * 1 = 65 * 1 from rfl, madeCells_one, flS_zero]
  rfl
set_option maxRecDepth 20000 in
set_option maxHeartbeats 8000000 in
theorem walk (w : World) (ht : Tab w) :
    Calls Tryd.prog 10 #[] w fun e w' => e = .returned (.bool true) ∧ G w w' := by
  have HT := Lib.hid ht
  clear ht
  have hmk := make_strs
  go_enter Tryd.func10, Tryd.ntmps10
  go_wp2_with fail
  go_loopw [2] (fun kv wr => ∃ i : Nat, i ≤ 65 ∧ kv = .int .i64 i ∧ G w wr ∧ Blk wr w.heap.size 9 (vS (flS i)).toArray) (fun kv _ => 65 - (intOf kv).toNat)
  case atStart => exact ⟨0, by omega, rfl, (G.refl _).alloc _, Blk.new _ _ _⟩
  case round =>
    obtain ⟨i, hi, rfl, hg, hB⟩ := hrel
    by_cases hlt : i < 65
    · have hil : (i : Int) < 65 := by omega
      obtain ⟨x, hx⟩ : ∃ x, wr.cell? ⟨w.heap.size, i, none⟩ = some x := by
        rw [hB.cell i, List.getElem?_toArray]
        exact ⟨_, vS_get (by rw [flS_len]; exact hlt)⟩
      have f0 := hB.frozen i
      go_wp2_with fail
      go_roundw
      case rel => exact ⟨i + 1, by omega, by go_num, hg.setCell (p := ⟨w.heap.size, i, none⟩) (Nat.le_refl _) _, by rw [← flS_set i hlt]; exact hB.set_ i _⟩
      case measure => simp [intOf]; omega
    · obtain rfl : i = 65 := by omega
      have gA := hg
      clear hg hmk
      obtain ⟨k, hk⟩ : ∃ k, w.heap.size = k := ⟨_, rfl⟩
      rw [hk] at hB ⊢
      clear hk
      go_wp2_with fail
      go_at_call 14
      refine (splay_any _ 5 1 u5 (by decide) (by decide) (by decide) _ (HT.out.g gA)).mono ?_
      rintro e w1 ⟨rfl, gx⟩
      rw [k1, v1]
      replace gA := gA.trans gx
      replace hB := hB.g gx
      clear gx
      go_wp2_with fail
      go_at_call 14
      refine (splay_any _ 5 0 u5 (by decide) (by decide) (by decide) _ (HT.out.g gA)).mono ?_
      rintro e w2 ⟨rfl, gx⟩
      rw [k2, v2]
      replace gA := gA.trans gx
      replace hB := hB.g gx
      clear gx
      go_wp2_with fail
      go_at_call 14
      refine (splay_any _ 5 (-1) u5 (by decide) (by decide) (by decide) _ (HT.out.g gA)).mono ?_
      rintro e w3 ⟨rfl, gx⟩
      rw [k3]
      replace gA := gA.trans gx
      replace hB := hB.g gx
      clear gx
      go_wp2_with fail
      go_at_call 14
      refine (splay_any _ 5 (-1) u5 (by decide) (by decide) (by decide) _ (HT.out.g gA)).mono ?_
      rintro e w4 ⟨rfl, gx⟩
      rw [k4]
      replace gA := gA.trans gx
      replace hB := hB.g gx
      clear gx
      go_wp2_with fail
      go_at_call 16
      refine (splays_any (flS 65) _ 5 (-1) u5 (by decide) (by decide) _ (rd_many hB) (HT.out.g gA)).mono ?_
      rintro e w5 ⟨vx, rfl, rx, gx⟩
      rw [k5]
      replace gA := gA.trans gx
      replace hB := hB.g gx
      clear rx gx
      go_wp2_with fail
      go_at_call 16
      refine (splays_any (List.replicate 64 ⟨#[110]⟩) _ 5 68719476736 u5 (by decide) (by decide) _ (rd_64 hB) (HT.out.g gA)).mono ?_
      rintro e w6 ⟨va, rfl, ra, gx⟩
      rw [k6]
      replace gA := gA.trans gx
      replace hB := hB.g gx
      rw [l6] at ra
      obtain ⟨P, hP⟩ : ∃ P, placeI 5 68719476736 ⟨#[110]⟩ = P := ⟨_, rfl⟩
      rw [hP] at ra
      clear hP
      obtain ⟨A1, q1, rfl, hq1, hm1, hr1⟩ := ra
      obtain ⟨b1, o1, rfl, hd1⟩ := hr1 (by simp [vI])
      have ra0 : w6.cell? ⟨b1, o1, none⟩ = some (.int .i64 P) := hd1 0 _ rfl
      have ra1 : w6.cell? ⟨b1, o1 + 63, none⟩ = some (.int .i64 P) := hd1 63 _ rfl
      have hlen : (vI .i64 (List.replicate 64 P)).length = 64 := by simp [vI]
      rw [hlen] at hq1 ⊢
      clear hd1 hr1 hlen
      clear gx
      go_wp2_with fail
      go_at_call 14
      refine (splay_any _ 5 68719476737 u5 (by decide) (by decide) (by decide) _ (HT.out.g gA)).mono ?_
      rintro e w7 ⟨rfl, gx⟩
      rw [k7]
      replace gA := gA.trans gx
      replace hB := hB.g gx
      replace ra0 := G.cell gx (World.block_lt_of_cell? _ _ ra0) ra0
      replace ra1 := G.cell gx (World.block_lt_of_cell? _ _ ra1) ra1
      clear gx
      go_wp2_with fail
      go_at_call 18
      refine (buckets_any (flS 65) _ 5 0 u5 _ (rd_many hB) (HT.out.g gA)).mono ?_
      rintro e w8 ⟨vx, rfl, rx, gx⟩
      rw [k8]
      replace gA := gA.trans gx
      replace hB := hB.g gx
      replace ra0 := G.cell gx (World.block_lt_of_cell? _ _ ra0) ra0
      replace ra1 := G.cell gx (World.block_lt_of_cell? _ _ ra1) ra1
      clear rx gx
      go_wp2_with fail
      have hv : Rd (w8.alloc (.cells #[.string ⟨#[97]⟩, .string ⟨#[45, 95, 46]⟩, .string ⟨#[98]⟩] 9)) (.slice (some ⟨w8.heap.size, 0, none⟩) 3 3) (vS [⟨#[97]⟩, ⟨#[45, 95, 46]⟩, ⟨#[98]⟩]) := Rd.blk (Blk.new w8 9 #[.string ⟨#[97]⟩, .string ⟨#[45, 95, 46]⟩, .string ⟨#[98]⟩]) (by simp)
      go_at_call 18
      refine (buckets_any [⟨#[97]⟩, ⟨#[45, 95, 46]⟩, ⟨#[98]⟩] _ 5 0 u5 _ hv (HT.out.g (gA.alloc _))).mono ?_
      rintro e w9 ⟨vx, rfl, rx, gx⟩
      rw [k9]
      replace gA := (gA.alloc (.cells #[.string ⟨#[97]⟩, .string ⟨#[45, 95, 46]⟩, .string ⟨#[98]⟩] 9)).trans gx
      replace hB := (hB.alloc (.cells #[.string ⟨#[97]⟩, .string ⟨#[45, 95, 46]⟩, .string ⟨#[98]⟩] 9)).g gx
      replace ra0 := G.cell (((G.refl w8).alloc (.cells #[.string ⟨#[97]⟩, .string ⟨#[45, 95, 46]⟩, .string ⟨#[98]⟩] 9)).trans gx) (World.block_lt_of_cell? _ _ ra0) ra0
      replace ra1 := G.cell (((G.refl w8).alloc (.cells #[.string ⟨#[97]⟩, .string ⟨#[45, 95, 46]⟩, .string ⟨#[98]⟩] 9)).trans gx) (World.block_lt_of_cell? _ _ ra1) ra1
      clear rx gx hv
      go_wp2_with fail
      have hv : Rd (w9.alloc (.cells #[.string ⟨#[97]⟩] 9)) (.slice (some ⟨w9.heap.size, 0, none⟩) 1 1) (vS [⟨#[97]⟩]) := Rd.blk (Blk.new w9 9 #[.string ⟨#[97]⟩]) (by simp)
      go_at_call 18
      refine (buckets_any [⟨#[97]⟩] _ 5 0 u5 _ hv (HT.out.g (gA.alloc _))).mono ?_
      rintro e w10 ⟨vx, rfl, rx, gx⟩
      rw [k10]
      replace gA := (gA.alloc (.cells #[.string ⟨#[97]⟩] 9)).trans gx
      replace hB := (hB.alloc (.cells #[.string ⟨#[97]⟩] 9)).g gx
      replace ra0 := G.cell (((G.refl w9).alloc (.cells #[.string ⟨#[97]⟩] 9)).trans gx) (World.block_lt_of_cell? _ _ ra0) ra0
      replace ra1 := G.cell (((G.refl w9).alloc (.cells #[.string ⟨#[97]⟩] 9)).trans gx) (World.block_lt_of_cell? _ _ ra1) ra1
      clear rx gx hv
      go_wp2_with fail
      have hv : Rd (w10.alloc (.cells #[.string ⟨#[97]⟩] 9)) (.slice (some ⟨w10.heap.size, 0, none⟩) 1 1) (vS [⟨#[97]⟩]) := Rd.blk (Blk.new w10 9 #[.string ⟨#[97]⟩]) (by simp)
      go_at_call 18
      refine (buckets_any [⟨#[97]⟩] _ 5 65 u5 _ hv (HT.out.g (gA.alloc _))).mono ?_
      rintro e w11 ⟨vx, rfl, rx, gx⟩
      rw [k11]
      replace gA := (gA.alloc (.cells #[.string ⟨#[97]⟩] 9)).trans gx
      replace hB := (hB.alloc (.cells #[.string ⟨#[97]⟩] 9)).g gx
      replace ra0 := G.cell (((G.refl w10).alloc (.cells #[.string ⟨#[97]⟩] 9)).trans gx) (World.block_lt_of_cell? _ _ ra0) ra0
      replace ra1 := G.cell (((G.refl w10).alloc (.cells #[.string ⟨#[97]⟩] 9)).trans gx) (World.block_lt_of_cell? _ _ ra1) ra1
      clear rx gx hv
      go_wp2_with fail
      go_at_call 18
      refine (buckets_any [] _ 5 64 u5 _ (Rd.nil _) (HT.out.g gA)).mono ?_
      rintro e w12 ⟨vx, rfl, rx, gx⟩
      rw [k12]
      replace gA := gA.trans gx
      replace hB := hB.g gx
      replace ra0 := G.cell gx (World.block_lt_of_cell? _ _ ra0) ra0
      replace ra1 := G.cell gx (World.block_lt_of_cell? _ _ ra1) ra1
      obtain ⟨A2, q2, rfl, hq2, hm2, hr2⟩ := rx
      rw [vI_len, l12] at hq2 ⊢
      clear hr2
      clear gx
      go_wp2_with fail
      go_at_call 21
      refine (sum_any _ (by decide) _).mono ?_
      rintro e w13 ⟨rfl, gx⟩
      rw [s1]
      replace gA := gA.trans gx
      replace hB := hB.g gx
      replace ra0 := G.cell gx (World.block_lt_of_cell? _ _ ra0) ra0
      replace ra1 := G.cell gx (World.block_lt_of_cell? _ _ ra1) ra1
      clear gx
      go_wp2_with fail
      go_at_call 21
      refine (sum_any _ (by decide) _).mono ?_
      rintro e w14 ⟨rfl, gx⟩
      rw [s2]
      replace gA := gA.trans gx
      replace hB := hB.g gx
      replace ra0 := G.cell gx (World.block_lt_of_cell? _ _ ra0) ra0
      replace ra1 := G.cell gx (World.block_lt_of_cell? _ _ ra1) ra1
      clear gx
      go_wp2_with fail
      have gA2 := gA.drew
      simp only [List.append]
      go_region_held3 (fun w' => w'.cell? ⟨b1, o1, none⟩ = some (.int .i64 P) ∧ w'.cell? ⟨b1, o1 + 63, none⟩ = some (.int .i64 P)) (first | exact ⟨ra0, ra1⟩ | exact ⟨G.cell gx (World.block_lt_of_cell? w14 _ ra0) ra0, G.cell gx (World.block_lt_of_cell? w14 _ ra1) ra1⟩ | fail)
        (first | (go_at_call 13; refine (works_any _ (HT.out.g (by first | exact gA2 | exact gA))).mono ?_; rintro e w99 ⟨rfl, gx⟩; replace gx : G w14 w99 := (by first | exact gx | exact ((G.refl w14).drew).trans gx)))
      go_wp2_with fail
      go_ret
      exact ⟨rfl, gA.trans gx⟩

set_option maxRecDepth 4000 in
set_option maxHeartbeats 2000000 in
theorem contract (H : Type) (enc : TypeId × Value → H) (W : World) (base : Nat) (args : Array Value) (ds gs : List (DataW H)) (before : List MemPlace)
    (hval : ∀ (j : Nat) t v, Tryd.f10.params[j]? = some t → args[j]? = some v → Value.okWide Tryd.prog W .any base t v)
    (hW : DataW.Whole enc Tryd.prog Tryd.f10.params.toList Rows.hashKnownSpec.vars false W args.toList ds gs before) (hL : laidMetH Tryd.prog Rows.hashKnownRow.laid W) :
    Calls Tryd.prog 10 args W fun e W' => ∃ v, e = .returned v ∧ Rows.hashKnownSpec.post enc Tryd.prog Tryd.f10 false true false false W args v W' := by
  have hW' := hW
  obtain ⟨p, q, hA0, hV, rfl, hfz, hnd⟩ := hW
  have hA : DataW.TrodAll enc Tryd.prog W 0 (fun _ => true) true Tryd.f10.params.toList args.toList ds p := hA0
  rw [Tryd.params10] at hA hval
  obtain rfl : args = #[] := by rcases args with ⟨l⟩; cases l with | nil => rfl | cons a b => exact (by cases ds <;> exact hA.elim)
  obtain rfl : ds = [] := by cases ds with | nil => rfl | cons a b => exact hA.elim
  refine (walk (w := W)  (tab_of hL)).mono fun e W' ⟨he, hg⟩ => ?_
  subst he
  exact ⟨_, rfl, law_post laidOut_ (by
    intro t ht
    rw [Tryd.params10] at ht
    simp at ht
    skip) hW' rfl rfl (by kernel_rfl) Tryd.underlying4 hg⟩
theorem laid_met (os : Os) : laidMet Tryd.prog Rows.hashKnownRow.laid ((laidWorld os).forCall (fun _ _ => 0) ⟨#[], #[], []⟩).memory :=
  laidMet_of_run' 8 (by kernel_rfl) (by kernel_rfl)
theorem reads (os : Os) {H : Type} (enc : TypeId × Value → H) : ∃ places, DataW.whole enc Tryd.prog ((laidWorld os).forCall (fun _ _ => 0) ⟨#[], #[], []⟩).memory Tryd.f10.params.toList Rows.hashKnownSpec.vars false (#[] : Array Value).toList 8 = some ([], [], places) :=
  ⟨[], by kernel_rfl⟩
set_option maxRecDepth 100000 in
theorem lifted (os : Os) (started : os.Started) (H : Type) (enc : TypeId × Value → H) (F : Stop.Interp) :
    ReturnsInHanded {} Tryd.checked os 10 .any ((OpenSpec.ofChange Rows.hashKnownSpec).preRow enc Tryd.prog Tryd.f10 Rows.hashKnownRow.domain false Rows.hashKnownRow.laid) (((OpenSpec.ofChange Rows.hashKnownSpec).at F).post enc Tryd.prog Tryd.f10 false true false false) := by
  obtain ⟨places, hx⟩ := reads os enc
  refine returnsInHanded_of_row (C := Tryd.checked) (s := OpenSpec.ofChange Rows.hashKnownSpec) own_ started (by kernel_rfl) Tryd.func10
    (witness_row_at (enc := enc) (C := Tryd.checked) false (laidWorld os) #[] rfl (by kernel_rfl) (by kernel_rfl) (by kernel_rfl)
      (OpenSpec.preRow_of_cond 8 hx (by kernel_rfl) (fun k hk => by cases hk) (by kernel_rfl) (laid_met os))) ?_
  intro W base args ds gs before hval hW _ _ _ hL _ _
  exact contract H enc W base args ds gs before hval hW hL
theorem said : Rows.HashKnownSaid :=
  OpenClaim.holds_of_cond 10 Tryd.f10 rfl rfl rfl rfl rfl rfl rfl ⟨rfl, rfl, rfl, rfl, rfl⟩ rfl rfl rfl rfl rfl (by kernel_rfl) Tryd.func10 (by kernel_rfl)
    (of_decide_eq_true (by kernel_rfl)) (by unfold Func.isWrapper; first | (rw [if_pos (by decide +kernel)]; kernel_rfl) | (rw [if_neg (by decide +kernel)]; exact ⟨rfl, rfl⟩))
    (fun os started H enc _ F => by rw [OpenClaim.pre_eq_preRow]; exact lifted os started H enc F)
theorem plain (f : FuncId) (fn : Func) (hf : Tryd.pinned.checked.prog.funcNamed "wakeman/wakemanlaw28.HashKnown" = some f) (hfn : Tryd.pinned.checked.prog.funcs[f]? = some fn) :
    false = Tryd.pinned.checked.prog.looks [] ∧ ∀ (j : Nat) t, fn.params[j]? = some t → Tryd.pinned.checked.prog.wantsStandIn t = false := by
  obtain rfl : f = 10 := Option.some.inj ((show Tryd.prog.funcNamed "wakeman/wakemanlaw28.HashKnown" = some 10 by kernel_rfl).symm.trans hf) |>.symm
  obtain rfl : fn = Tryd.f10 := (Option.some.inj (Tryd.func10.symm.trans hfn)).symm
  refine ⟨by kernel_rfl, fun j t ht => ?_⟩
  rw [Tryd.params10] at ht
  simp at ht
theorem card : Rows.HashKnownCardSaid :=
  Claim7.holds_tied_plain_at .later [] _ _ _ _ said (fun _ h => by cases h) (by kernel_rfl) (fun _ h => by cases h) hashKnown_row_tie rfl ⟨rfl, rfl⟩ (by kernel_rfl) rfl plain (by kernel_rfl)
#print axioms card
end Go.Proofs.YtodijghpeikmoaaDoor.lawHashKnown
