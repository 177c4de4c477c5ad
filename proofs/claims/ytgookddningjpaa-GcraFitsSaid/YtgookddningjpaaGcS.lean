/-
  Contracts of the laws' own functions: small, steps.
-/
import Derived.Test.YtgookddningjpaaGcW
import Derived.Maps.AppendAt
set_option linter.unusedVariables false
set_option linter.unusedSimpArgs false
namespace Go.Proofs.Ytgookddningjpaa
open Go.RowKit

/-- the limit that small returns -/
def smT (t : Int) : Int := t % 32
def smU (t u : Int) : Int := if t % 32 = 0 then 0 else u
/-- a running sum: from c on, each step T and a number's rest by q -/
def accA (l : List Int) (c T q : Int) : Nat → Int
  | 0 => c
  | k + 1 => accA l c T q k + (T + at_ l k % q)
def upA (l : List Int) (c T q : Int) : Nat → List Int
  | 0 => []
  | k + 1 => upA l c T q k ++ [accA l c T q (k + 1)]
theorem upA_len (l : List Int) (c T q : Int) (k : Nat) : (upA l c T q k).length = k := by
  induction k with
  | zero => rfl
  | succ k ih => simp [upA, ih]
theorem upA_at (l : List Int) (c T q : Int) : ∀ {n k : Nat}, k < n → at_ (upA l c T q n) k = accA l c T q (k + 1)
  | 0, _, h => absurd h (by omega)
  | n + 1, k, h => by
    unfold at_ upA
    by_cases e : k = n
    · subst e
      rw [List.getElem?_append_right (by rw [upA_len]; omega), upA_len]
      simp
    · rw [List.getElem?_append_left (by rw [upA_len]; omega)]
      exact upA_at l c T q (n := n) (by omega)
theorem accA_bound (l : List Int) (c T q : Int) (hc : 0 ≤ c) (hT : 0 ≤ T) (hq : 0 < q) (k : Nat) : c ≤ accA l c T q k ∧ accA l c T q k ≤ c + (T + q) * k := by
  induction k with
  | zero => simp [accA]
  | succ k ih =>
    have h1 := Int.emod_nonneg (at_ l k) (by omega : q ≠ 0)
    have h2 := Int.emod_lt_of_pos (at_ l k) hq
    have h3 : (T + q) * ((k + 1 : Nat) : Int) = (T + q) * k + (T + q) := by rw [Int.natCast_succ, Int.mul_add, Int.mul_one]
    rw [h3]
    unfold accA
    omega
theorem vI_app_ (k : IntKind) (l : List Int) (x : Int) : vI k l ++ [.int k x] = vI k (l ++ [x]) := by simp [vI]

set_option maxHeartbeats 800000 in
theorem small_any (t u : Int) (h0 : 0 ≤ t) (h1 : t ≤ 255) (u0 : 0 ≤ u) (u1 : u ≤ 255) (w : World) :
    Calls Try.prog 16 #[.int .u8 t, .int .u8 u] w fun e w' => e = .returned (.agg #[.int .i64 (smT t), .int .i64 (smU t u)]) ∧ G w w' := by
  by_cases hc : t % 32 = 0
  · have e1 : smT t = 0 := hc
    have e2 : smU t u = 0 := by unfold smU; rw [if_pos hc]
    rw [e1, e2]
    go_enter Try.func16, Try.ntmps16
    go_wp2_with fail
    refine bodyPost_ret (v := .agg #[.int .i64 0, .int .i64 0]) (by simp [results, Try.results16, go_sem]) rfl ⟨rfl, (by repeat (first | exact G.refl _ | refine G.alloc ?_ _ | refine G.drewN ?_ _ | refine G.drew ?_ | refine G.trans ?_ (by assumption)))⟩
  · have e1 : smT t = t % 32 := rfl
    have e2 : smU t u = u := by unfold smU; rw [if_neg hc]
    rw [e1, e2]
    have hc2 : (t % 32 == 0) = false := by simpa using hc
    clear e1 e2
    go_enter Try.func16, Try.ntmps16
    go_wp2_with fail
    refine bodyPost_ret (v := .agg #[.int .i64 (t % 32), .int .i64 u]) (by simp [results, Try.results16, go_sem]) rfl ⟨rfl, (by repeat (first | exact G.refl _ | refine G.alloc ?_ _ | refine G.drewN ?_ _ | refine G.drew ?_ | refine G.trans ?_ (by assumption)))⟩

theorem at_vQ {q : IntKind} {w : World} {l : List Int} {b o : Nat} (hc : ∀ j u, (vI q l)[j]? = some u → w.cell? ⟨b, o + j, none⟩ = some u) {k : Nat} (hk : k < l.length) : w.cell? ⟨b, o + k, none⟩ = some (.int q (at_ l k)) := hc k _ (vI_get hk)
theorem u8_at {l : List Int} (hl : ∀ x ∈ l, (Lit.int .u8 x).wf = true) {k : Nat} (h : k < l.length) : 0 ≤ at_ l k ∧ at_ l k ≤ 255 := by
  have e : at_ l k = l[k] := by unfold at_; rw [List.getElem?_eq_getElem h]; rfl
  rw [e]
  have := hl _ (List.getElem_mem h)
  simp [Lit.wf, IntKind.min, IntKind.max, IntKind.bits, IntKind.signed] at this
  exact this
set_option maxHeartbeats 2000000 in
theorem steps_any (v : Value) (l : List Int) (hl : ∀ x ∈ l, (Lit.int .u8 x).wf = true) (w : World) (hR : Rd w v (vI .u8 l)) :
    Calls Try.prog 18 #[v] w fun e w' => ∃ u, e = .returned u ∧ G w w' ∧ w'.ownsRow w.heap.size 2 1 u (min l.length 60) (vI .i64 (upA l 1000 0 64 (min l.length 60))) := by
  have hi : (Try.prog.info? 2).map (fun i => (i.zero, i.size, i.bytes)) = some (some (.int .i64 0), 1, 8) := by kernel_rfl
  obtain ⟨i0, hi_, hz0, hz1, hz2⟩ := info_parts hi
  clear hi
  have hi := hi_
  have HL := Lib.hid (fun k (h : k < l.length) => u8_at hl h)
  obtain ⟨a, cap, rfl, hcap, hmx, hcell⟩ := hR
  rw [vI_len] at hcap
  rw [vI_len]
  have HC := Lib.hid hcell
  clear hl hcell
  by_cases hm : l.length ≤ 60
  · rw [Nat.min_eq_left hm]
    go_enter Try.func18, Try.ntmps18
    go_wp2_with fail
    go_loopw [3, 4, 13] (fun v t i wr => ∃ k : Nat, k ≤ l.length ∧ t = .int .i64 (accA l 1000 0 64 k) ∧ i = .int .i64 k ∧ G w wr ∧ wr.ownsRow w.heap.size 2 1 v k (vI .i64 (upA l 1000 0 64 k))) (fun _ _ i _ => l.length - (intOf i).toNat)
    case atStart => exact ⟨0, by omega, rfl, rfl, G.refl _, by exact World.ownsRow_nil _ _ _ _⟩
    case round =>
      obtain ⟨k, hk, rfl, rfl, hg, hown⟩ := hrel
      by_cases hlt : k < l.length
      · obtain ⟨b, o, rfl, hc⟩ := HC.out (by rw [vI_len]; omega)
        have d0 := at_vQ hc (k := k) (by omega)
        have d0 := hg.cell (World.block_lt_of_cell? w _ d0) d0
        obtain ⟨x0, x1⟩ := HL.out k (by omega)
        have hA := accA_bound l 1000 0 64 (by omega) (by omega) (by omega) k
        have hS : accA l 1000 0 64 (k + 1) = accA l 1000 0 64 k + at_ l k % 64 := by simp [accA]
        have hU : upA l 1000 0 64 (k + 1) = upA l 1000 0 64 k ++ [accA l 1000 0 64 (k + 1)] := rfl
        rw [hS] at hU
        have HS := Lib.hid hS
        have HU := Lib.hid hU
        clear hS hU hc
        generalize at_ l k = x at *
        generalize accA l 1000 0 64 k = A at *
        obtain ⟨A0, A1⟩ := hA
        have A1 : A ≤ 4900 := by omega
        have hsz := hg.size
        have y0 : 0 ≤ x % 64 := by omega
        have y1 : x % 64 < 64 := by omega
        have hw : IntKind.i64.wrap (A + x % 64) = A + x % 64 := IntWalk.i64_in _ (by omega)
        go_wp2_with (at_builtin; refine wpList_append_own _ rfl _ _ 26 rfl w.heap.size 2 i0 (.int .i64 0) 1 8 Try.underlying26 hi hz0 hz1 hz2 rfl (by decide) _ _ _ rfl (hown.alloc _) ⟨wr.heap.size, 0, none⟩ 1 1 [.int .i64 (A + x % 64)] rfl rfl (cell_one_new _ _ _) (by simp [Value.oneCell']) (by unfold maxLen; omega) (by omega) (by simp; omega) ?_; intro v' w1 hown' hgrow _)
        have hg1 : G w w1 := (hg.alloc _).grown hgrow (fun r e => (hown.lt r e).1)
        rw [vI_app_, ← HU.out] at hown'
        go_wp2_with fail
        go_roundw
        case rel => exact ⟨k + 1, by omega, by rw [HS.out], by go_num, hg1, hown'⟩
        case measure => simp [intOf]; omega
      · obtain rfl : k = l.length := by omega
        clear hi hz0 hz1 hz2 hi_
        go_wp2_with fail
        go_ret
        exact ⟨_, rfl, hg, hown⟩
  · rw [Nat.min_eq_right (by omega : 60 ≤ l.length)]
    go_enter Try.func18, Try.ntmps18
    go_wp2_with fail
    go_loopw [3, 4, 13] (fun v t i wr => ∃ k : Nat, k ≤ 60 ∧ t = .int .i64 (accA l 1000 0 64 k) ∧ i = .int .i64 k ∧ G w wr ∧ wr.ownsRow w.heap.size 2 1 v k (vI .i64 (upA l 1000 0 64 k))) (fun _ _ i _ => 60 - (intOf i).toNat)
    case atStart => exact ⟨0, by omega, rfl, rfl, G.refl _, by exact World.ownsRow_nil _ _ _ _⟩
    case round =>
      obtain ⟨k, hk, rfl, rfl, hg, hown⟩ := hrel
      by_cases hlt : k < 60
      · obtain ⟨b, o, rfl, hc⟩ := HC.out (by rw [vI_len]; omega)
        have d0 := at_vQ hc (k := k) (by omega)
        have d0 := hg.cell (World.block_lt_of_cell? w _ d0) d0
        obtain ⟨x0, x1⟩ := HL.out k (by omega)
        have hA := accA_bound l 1000 0 64 (by omega) (by omega) (by omega) k
        have hS : accA l 1000 0 64 (k + 1) = accA l 1000 0 64 k + at_ l k % 64 := by simp [accA]
        have hU : upA l 1000 0 64 (k + 1) = upA l 1000 0 64 k ++ [accA l 1000 0 64 (k + 1)] := rfl
        rw [hS] at hU
        have HS := Lib.hid hS
        have HU := Lib.hid hU
        clear hS hU hc
        generalize at_ l k = x at *
        generalize accA l 1000 0 64 k = A at *
        obtain ⟨A0, A1⟩ := hA
        have A1 : A ≤ 4900 := by omega
        have hsz := hg.size
        have y0 : 0 ≤ x % 64 := by omega
        have y1 : x % 64 < 64 := by omega
        have hw : IntKind.i64.wrap (A + x % 64) = A + x % 64 := IntWalk.i64_in _ (by omega)
        go_wp2_with (at_builtin; refine wpList_append_own _ rfl _ _ 26 rfl w.heap.size 2 i0 (.int .i64 0) 1 8 Try.underlying26 hi hz0 hz1 hz2 rfl (by decide) _ _ _ rfl (hown.alloc _) ⟨wr.heap.size, 0, none⟩ 1 1 [.int .i64 (A + x % 64)] rfl rfl (cell_one_new _ _ _) (by simp [Value.oneCell']) (by unfold maxLen; omega) (by omega) (by simp; omega) ?_; intro v' w1 hown' hgrow _)
        have hg1 : G w w1 := (hg.alloc _).grown hgrow (fun r e => (hown.lt r e).1)
        rw [vI_app_, ← HU.out] at hown'
        go_wp2_with fail
        go_roundw
        case rel => exact ⟨k + 1, by omega, by rw [HS.out], by go_num, hg1, hown'⟩
        case measure => simp [intOf]; omega
      · obtain rfl : k = 60 := by omega
        clear hi hz0 hz1 hz2 hi_
        go_wp2_with fail
        go_ret
        exact ⟨_, rfl, hg, hown⟩
end Go.Proofs.Ytgookddningjpaa
