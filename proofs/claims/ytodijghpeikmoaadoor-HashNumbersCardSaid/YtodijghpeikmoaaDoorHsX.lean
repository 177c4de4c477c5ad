/-
  Package hash: refused splays; the examples of the chapter.
-/
import Derived.Test.YtodijghpeikmoaaDoorHsK
set_option linter.unusedVariables false
set_option linter.unusedSimpArgs false
namespace Go.Proofs.YtodijghpeikmoaaDoor
open Go.RowKit Go.Shelf

set_option maxHeartbeats 1000000 in
theorem splays_err (l : List ByteArray) (v : Value) (a n : Int) (w : World) (hv : Rd w v (vS l)) (hc : chkH l = 12 ∨ chkH l = 15) :
    Calls Tryd.prog 16 #[v, .int .u64 a, .int .i64 n] w fun e w' => e = .returned (.tuple #[.slice none 0 0, .int .i64 (chkH l)]) ∧ G w w' := by
  have HV := Lib.hid hv
  obtain ⟨A, c, rfl, hcc, hcm, hr⟩ := hv
  rw [vS_len] at *
  clear hr
  obtain ⟨q, hq⟩ : ∃ q, chkH l = q := ⟨_, rfl⟩
  have HQ := Lib.hid hq
  rw [hq] at hc ⊢
  have h0 : (q == 0) = false := by rcases hc with h | h <;> rw [h] <;> rfl
  have h1 : (q != 0) = true := by rcases hc with h | h <;> rw [h] <;> rfl
  clear hc hq
  go_enter Tryd.func16, Tryd.ntmps16
  go_wp2_with fail
  go_at_call 30
  refine (hcheck_any l _ _ HV.out).mono ?_
  rintro e w1 ⟨rfl, g1⟩
  rw [HQ.out]
  go_wp2_with fail
  go_ret2
  exact ⟨rfl, (by repeat (first | exact G.refl _ | refine G.alloc ?_ _ | refine G.drewN ?_ _ | refine G.drew ?_ | refine G.trans ?_ (by assumption)))⟩
set_option maxHeartbeats 1000000 in
theorem splay_err (s : ByteArray) (a n : Int) (w : World) (hs : nmB s = false) :
    Calls Tryd.prog 14 #[.string s, .int .u64 a, .int .i64 n] w fun e w' => e = .returned (.tuple #[.int .i64 0, .int .i64 15]) ∧ G w w' := by
  have HC : Hid (chkH [s] = 15) := Lib.hid (by unfold chkH; rw [if_neg (by simp), if_neg (by simp [nmsAll, hs])])
  go_enter Tryd.func14, Tryd.ntmps14
  go_wp2_with fail
  go_at_call 16
  refine (splays_err [s] _ a n _ (Rd.blk (Blk.new w _ #[.string s]) (by simp)) (.inr HC.out)).mono ?_
  rintro e w1 ⟨rfl, g1⟩
  rw [HC.out]
  go_wp2_with fail
  go_ret2
  exact ⟨rfl, (by repeat (first | exact G.refl _ | refine G.alloc ?_ _ | refine G.drewN ?_ _ | refine G.drew ?_ | refine G.trans ?_ (by assumption)))⟩
/-- the texts of the examples -/
def tA : ByteArray := ⟨#[97]⟩
def tB : ByteArray := ⟨#[98]⟩
def tC : ByteArray := ⟨#[99]⟩
theorem abc_chk : chkH [⟨#[97]⟩, ⟨#[98]⟩, ⟨#[99]⟩] = 0 := by decide +kernel
theorem abc_ok : okS [⟨#[97]⟩, ⟨#[98]⟩, ⟨#[99]⟩] := by
  intro j
  match j with
  | 0 => decide
  | 1 => decide
  | 2 => decide
  | j + 3 => simp
theorem place_one (a : Int) (s : ByteArray) : placeI a ((1 : Nat) : Int) s = 0 := by
  have := placeI_bd a ((1 : Nat) : Int) s (by omega)
  omega
theorem abc_cnt (a : Int) : cntL a 1 [⟨#[97]⟩, ⟨#[98]⟩, ⟨#[99]⟩] = [3] := by
  unfold cntL bump
  simp only [List.foldl_cons, List.foldl_nil, place_one]
  rfl
theorem ab_no : nmB ⟨#[97, 32, 98]⟩ = false := by decide +kernel
theorem foobar_sum : sumS ⟨#[102, 111, 111, 98, 97, 114]⟩ = 9625390261332436968 := by decide +kernel
theorem foo_bar : hS (sumS ⟨#[102, 111, 111]⟩) (bs ⟨#[98, 97, 114]⟩) = 9625390261332436968 := by decide +kernel
set_option maxHeartbeats 1000000 in
theorem works_any (w : World) (ht : Tab w) :
    Calls Tryd.prog 13 #[] w fun e w' => e = .returned (.bool true) ∧ G w w' := by
  have hv := Rd.blk (Blk.new w 9 #[.string ⟨#[97]⟩, .string ⟨#[98]⟩, .string ⟨#[99]⟩]) (by simp)
  have HV : Hid (Rd (w.alloc (.cells #[.string ⟨#[97]⟩, .string ⟨#[98]⟩, .string ⟨#[99]⟩] 9)) (.slice (some ⟨w.heap.size, 0, none⟩) 3 3) (vS [⟨#[97]⟩, ⟨#[98]⟩, ⟨#[99]⟩])) := Lib.hid hv
  have HT : Hid (Tab (w.alloc (.cells #[.string ⟨#[97]⟩, .string ⟨#[98]⟩, .string ⟨#[99]⟩] 9))) := Lib.hid (ht.g ((G.refl w).alloc _))
  clear hv ht
  go_enter Tryd.func13, Tryd.ntmps13
  go_wp2_with fail
  go_at_call 18
  refine (buckets_ok _ _ 5 1 ⟨by decide, by decide⟩ _ HV.out HT.out abc_ok abc_chk (by decide) (by decide)).mono ?_
  rintro e w1 ⟨v1, rfl, hr, g1⟩
  rw [abc_cnt] at hr
  obtain ⟨A1, c1, rfl, hc1, hm1, hr1⟩ := hr
  obtain ⟨b1, o1, rfl, hd1⟩ := hr1 (by decide)
  have d1 : w1.cell? ⟨b1, o1, none⟩ = some (.int .i64 3) := hd1 0 _ rfl
  rw [show (vI .i64 [3]).length = 1 from rfl] at *
  have gW : G w w1 := ((G.refl w).alloc _).trans g1
  clear hd1 g1 HV HT
  go_wp2_with fail
  go_at_call 14
  refine (splay_err _ 5 1 _ ab_no).mono ?_
  rintro e w2 ⟨rfl, g2⟩
  have d2 := g2.cell (World.block_lt_of_cell? w1 _ d1) d1
  go_wp2_with fail
  go_at_call 21
  refine (sum_any _ (by decide) _).mono ?_
  rintro e w3 ⟨rfl, g3⟩
  rw [foobar_sum]
  go_wp2_with fail
  go_at_call 21
  refine (sum_any _ (by decide) _).mono ?_
  rintro e w4 ⟨rfl, g4⟩
  go_wp2_with fail
  go_at_call 20
  refine (more_any _ _ (sumS_bd _) (by decide) _).mono ?_
  rintro e w5 ⟨rfl, g5⟩
  rw [foo_bar]
  have g6 := (g3.trans g4).trans g5
  have d3 := g6.cell (World.block_lt_of_cell? w2 _ d2) d2
  have gE := (gW.trans g2).trans g6
  clear g3 g4 g5 d1 d2 g2 gW hr1
  go_wp2_with fail
  go_ret
  exact ⟨rfl, gE⟩
end Go.Proofs.YtodijghpeikmoaaDoor
