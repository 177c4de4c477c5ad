/-
  The document's side of part 30: Wait, List, Total, Reaches, Within, Longest.
-/
import Derived.Test.YtabgddiecddbhaaBkH
import Derived.Test.YtabgddiecddbhaaBkI
set_option linter.unusedVariables false
set_option linter.unusedSimpArgs false
namespace Go.Proofs.Ytabgddiecddbhaa
open Go.RowKit

def at_ (l : List Int) (k : Nat) : Int := l[k]?.getD 0
theorem at_vQ {q : IntKind} {w : World} {l : List Int} {b o : Nat} (hc : ∀ j u, (vI q l)[j]? = some u → w.cell? ⟨b, o + j, none⟩ = some u) {k : Nat} (hk : k < l.length) : w.cell? ⟨b, o + k, none⟩ = some (.int q (at_ l k)) := hc k _ (vI_get hk)
theorem vI_app_ (k : IntKind) (l : List Int) (x : Int) : vI k l ++ [.int k x] = vI k (l ++ [x]) := by simp [vI]
theorem waitsL_ok {B C J : Int} {m : Nat} (hok : okR m B C J) : waitsL m B C J = (List.range m).map (wAt B C) := by unfold waitsL; rw [if_pos hok, Int.toNat_natCast]
theorem at_range {B C : Int} {m k : Nat} (hk : k < m) : at_ ((List.range m).map (wAt B C)) k = wAt B C k := by
  unfold at_
  simp [List.getElem?_range, hk]
set_option maxHeartbeats 2000000 in
theorem rwait_any (M B C J k : Int) (w : World) :
    Calls Try.prog 13 #[.agg #[.int .i64 M, .int .i64 B, .int .i64 C, .int .i64 J], .int .i64 k] w fun e w' => e = .returned (.tuple #[.int .i64 (waitI M B C J k), .int .i64 (waitE M B C J k)]) ∧ G w w' := by
  by_cases hok : okR M B C J
  · have HC : Hid (chkE M B C J = 0) := Lib.hid (if_pos hok)
    have hT : waitE M B C J k = if 1 ≤ k ∧ k ≤ M then 0 else 3 := if_pos hok
    by_cases hk : 1 ≤ k ∧ k ≤ M
    · rw [if_pos hk] at hT
      have hI : waitI M B C J k = wAt B C (k - 1).toNat := if_pos ⟨hok, hk⟩
      rw [hT, hI]
      clear hT hI
      have HOK := Lib.hid hok
      have hM : M ≤ 20 := by unfold okR at hok; omega
      obtain ⟨q0, q1⟩ := hk
      have d0 : decide (k < 1) = false := by simp; omega
      have d1 : decide (M < k) = false := by simp; omega
      clear hok
      go_enter Try.func13, Try.ntmps13
      go_wp2_with fail
      refine (rcheck_any M B C J _).mono ?_
      rintro e w1 ⟨rfl, g1⟩
      rw [HC.out]
      have hr : Blk w1 w.heap.size 23 #[.int .i64 M, .int .i64 B, .int .i64 C, .int .i64 J] := Blk.g (Blk.new w _ _) g1
      have x0 : w1.cell? ⟨w.heap.size, 0, none⟩ = some (.int .i64 M) := hr.cell 0
      have x1 : w1.cell? ⟨w.heap.size, 1, none⟩ = some (.int .i64 B) := hr.cell 1
      have x2 : w1.cell? ⟨w.heap.size, 2, none⟩ = some (.int .i64 C) := hr.cell 2
      have gW : G w w1 := ((G.refl w).alloc _).trans g1
      go_wp2_with fail
      go_loopw [6, 7] (fun wv iv wr => ∃ i : Nat, 1 ≤ i ∧ (i : Int) ≤ k ∧ wv = .int .i64 (wAt B C (i - 1)) ∧ iv = .int .i64 i ∧ G w1 wr) (fun _ iv _ => (k - intOf iv).toNat)
      case atStart => exact ⟨1, by omega, by omega, rfl, rfl, G.refl _⟩
      case round =>
        obtain ⟨i, hi1, hik, rfl, rfl, hg⟩ := hrel
        have y2 : wr.cell? ⟨w.heap.size, 2, none⟩ = some (.int .i64 C) := Blk.cell (hr.g hg) 2
        by_cases hlt : (i : Int) < k
        · obtain ⟨b0, b1, b2, -⟩ := wAt_bound HOK.out (i - 1)
          have HE : Hid (wAt B C (i + 1 - 1) = min (wAt B C (i - 1) + wAt B C (i - 1)) C) := Lib.hid (by
            obtain ⟨j, rfl⟩ : ∃ j, i = j + 1 := ⟨i - 1, by omega⟩
            rfl)
          generalize wAt B C (i - 1) = x at *
          go_wp2_with fail
          all_goals (
            go_roundw
            case rel => exact ⟨i + 1, by omega, by omega, by rw [HE.out]; congr 1 <;> (try split) <;> omega, by go_num, hg⟩
            case measure => simp [intOf]; omega)
        · obtain rfl : k = i := by omega
          have hd : decide ((i : Int) < (i : Int)) = false := by simp
          go_wp2_with fail
          go_ret2
          exact ⟨by congr 5 <;> omega, gW.trans hg⟩
    · rw [if_neg hk] at hT
      have hI : waitI M B C J k = 0 := if_neg (fun h => hk h.2)
      rw [hT, hI]
      clear hT hI hok
      go_enter Try.func13, Try.ntmps13
      go_wp2_with fail
      refine (rcheck_any M B C J _).mono ?_
      rintro e w1 ⟨rfl, g1⟩
      rw [HC.out]
      have hr : Blk w1 w.heap.size 23 #[.int .i64 M, .int .i64 B, .int .i64 C, .int .i64 J] := Blk.g (Blk.new w _ _) g1
      have x0 : w1.cell? ⟨w.heap.size, 0, none⟩ = some (.int .i64 M) := hr.cell 0
      have gW : G w w1 := ((G.refl w).alloc _).trans g1
      by_cases h0 : k < 1
      · go_wp2_with fail
        go_ret2
        exact ⟨rfl, gW⟩
      · have d0 : decide (k < 1) = false := by simpa using h0
        have d1 : M < k := by omega
        clear hk h0
        go_wp2_with fail
        go_ret2
        exact ⟨rfl, gW⟩
  · have HC : Hid (chkE M B C J = 16) := Lib.hid (if_neg hok)
    have HI : Hid (waitI M B C J k = 0) := Lib.hid (if_neg (fun h => hok h.1))
    have HE : Hid (waitE M B C J k = 16) := Lib.hid (if_neg hok)
    rw [HI.out, HE.out]
    clear hok
    go_enter Try.func13, Try.ntmps13
    go_wp2_with fail
    refine (rcheck_any M B C J _).mono ?_
    rintro e w1 ⟨rfl, g1⟩
    rw [HC.out]
    go_wp2_with fail
    go_ret2
    exact ⟨rfl, (by repeat (first | exact G.refl _ | refine G.alloc ?_ _ | refine G.drewN ?_ _ | refine G.drew ?_ | refine G.trans ?_ (by assumption)))⟩
set_option maxHeartbeats 2000000 in
theorem rlist_any (M B C J : Int) (w : World) :
    Calls Try.prog 18 #[.agg #[.int .i64 M, .int .i64 B, .int .i64 C, .int .i64 J]] w fun e w' => ∃ v, e = .returned (.tuple #[v, .int .i64 (chkE M B C J)]) ∧ w'.ownsRow w.heap.size 2 1 v (waitsL M B C J).length (vI .i64 (waitsL M B C J)) ∧ G w w' := by
  by_cases hok : okR M B C J
  · have HC : Hid (chkE M B C J = 0) := Lib.hid (if_pos hok)
    obtain ⟨m, rfl⟩ : ∃ m : Nat, M = m := ⟨M.toNat, by unfold okR at hok; omega⟩
    have hm : m ≤ 20 := by unfold okR at hok; omega
    rw [waitsL_ok hok]
    have HOK := Lib.hid hok
    clear hok
    rw [HC.out]
    go_enter Try.func18, Try.ntmps18
    go_wp2_with fail
    refine (rcheck_any m B C J _).mono ?_
    rintro e w1 ⟨rfl, g1⟩
    rw [HC.out]
    have hr : Blk w1 w.heap.size 23 #[.int .i64 m, .int .i64 B, .int .i64 C, .int .i64 J] := Blk.g (Blk.new w _ _) g1
    have gW : G w w1 := ((G.refl w).alloc _).trans g1
    obtain ⟨i0, hi, hz0, hz1, hz2⟩ := info_parts info_i64
    go_wp2_with fail
    go_loopw [4, 5] (fun ov kv wr => ∃ k : Nat, k ≤ m ∧ kv = .int .i64 ((k : Int) + 1) ∧ G w1 wr ∧ wr.ownsRow w1.heap.size 2 1 ov k (vI .i64 ((List.range k).map (wAt B C)))) (fun _ kv _ => m + 1 - (intOf kv).toNat)
    case atStart => exact ⟨0, by omega, rfl, G.refl _, World.ownsRow_nil _ _ _ _⟩
    case round =>
      obtain ⟨k, hk, rfl, hg, hown⟩ := hrel
      have hr2 := hr.g hg
      have x0 : wr.cell? ⟨w.heap.size, 0, none⟩ = some (.int .i64 m) := Blk.cell hr2 0
      have x1 : wr.cell? ⟨w.heap.size, 1, none⟩ = some (.int .i64 B) := Blk.cell hr2 1
      have x2 : wr.cell? ⟨w.heap.size, 2, none⟩ = some (.int .i64 C) := Blk.cell hr2 2
      have x3 : wr.cell? ⟨w.heap.size, 3, none⟩ = some (.int .i64 J) := Blk.cell hr2 3
      by_cases hlt : k < m
      · have hkm : (k : Int) + 1 ≤ m := by omega
        have hd : decide ((k : Int) + 1 ≤ m) = true := by simpa using hkm
        have HW : Hid (waitI m B C J (k + 1) = wAt B C k) := Lib.hid (by unfold waitI; rw [if_pos ⟨HOK.out, by omega, by omega⟩]; congr 1; omega)
        have HE : Hid (waitE m B C J (k + 1) = 0) := Lib.hid (by unfold waitE; rw [if_pos HOK.out, if_pos ⟨by omega, by omega⟩])
        have HU : Hid ((List.range (k + 1)).map (wAt B C) = (List.range k).map (wAt B C) ++ [wAt B C k]) := Lib.hid (by rw [List.range_succ, List.map_append]; rfl)
        go_wp2_with fail
        refine (rwait_any m B C J (k + 1) _).mono ?_
        rintro e w2 ⟨rfl, g2⟩
        rw [HW.out, HE.out]
        generalize wAt B C k = x at *
        have hg2 := hg.trans g2
        have hsz := hg2.size
        have hown2 := ownsRow_g hown g2
        go_wp2_with (at_builtin; refine wpList_append_own _ rfl _ _ 30 rfl w1.heap.size 2 i0 (.int .i64 0) 1 8 Try.underlying30 hi hz0 hz1 hz2 rfl (by decide) _ _ _ rfl (hown2.alloc _) ⟨w2.heap.size, 0, none⟩ 1 1 [.int .i64 x] rfl rfl (cell_one_new _ _ _) (by simp [Value.oneCell']) (by unfold maxLen; omega) (by omega) (by simp; omega) ?_; intro v' w3 hown' hgrow _)
        have hg3 : G w1 w3 := (hg2.alloc _).grown hgrow (fun r e => (hown2.lt r e).1)
        rw [vI_app_, ← HU.out] at hown'
        go_wp2_with fail
        go_roundw
        case rel => exact ⟨k + 1, by omega, by go_num, hg3, hown'⟩
        case measure => simp [intOf]; omega
      · obtain rfl : k = m := by omega
        have hd : decide ((k : Int) + 1 ≤ k) = false := by simp; omega
        go_wp2_with fail
        go_ret2
        exact ⟨_, rfl, by simpa using ownsRow_base hown gW.size, gW.trans hg⟩
  · have HC : Hid (chkE M B C J = 16) := Lib.hid (if_neg hok)
    have HT : Hid (waitsL M B C J = []) := Lib.hid (if_neg hok)
    rw [HT.out, HC.out]
    clear hok
    go_enter Try.func18, Try.ntmps18
    go_wp2_with fail
    refine (rcheck_any M B C J _).mono ?_
    rintro e w1 ⟨rfl, g1⟩
    rw [HC.out]
    go_wp2_with fail
    go_ret2
    exact ⟨_, rfl, World.ownsRow_nil _ _ _ _, (by repeat (first | exact G.refl _ | refine G.alloc ?_ _ | refine G.drewN ?_ _ | refine G.drew ?_ | refine G.trans ?_ (by assumption)))⟩
/-! ### what the sums say, over the list of all waits -/
def preS (L : List Int) : Nat → Int
  | 0 => 0
  | k + 1 => preS L k + at_ L k
theorem find_congr {n : Nat} {f g : Nat → Bool} (h : ∀ k, k < n → f k = g k) : (List.range n).find? f = (List.range n).find? g := by
  induction n with
  | zero => rfl
  | succ n ih =>
    rw [List.range_succ, List.find?_append, List.find?_append, ih (fun k hk => h k (by omega))]
    congr 1
    simp only [List.find?_cons, List.find?_nil, h n (by omega)]
theorem waits_len (M B C J : Int) : (waitsL M B C J).length ≤ 20 := by
  unfold waitsL
  split
  · rename_i h; unfold okR at h; simp; omega
  · simp
theorem waits_at {M B C J : Int} {k : Nat} (hk : k < (waitsL M B C J).length) : okR M B C J ∧ k < M.toNat ∧ at_ (waitsL M B C J) k = wAt B C k := by
  unfold waitsL at hk ⊢
  split at hk
  · rename_i h
    rw [if_pos h]
    simp at hk
    exact ⟨h, by omega, at_range (by omega)⟩
  · simp at hk
theorem waits_bound {M B C J : Int} {k : Nat} (hk : k < (waitsL M B C J).length) : 0 ≤ at_ (waitsL M B C J) k ∧ at_ (waitsL M B C J) k ≤ 68719476736 := by
  obtain ⟨h, -, e⟩ := waits_at hk
  have := wAt_bound h k
  rw [e]; omega
theorem preS_bound {M B C J : Int} {k : Nat} (hk : k ≤ (waitsL M B C J).length) : 0 ≤ preS (waitsL M B C J) k ∧ preS (waitsL M B C J) k ≤ 68719476736 * k := by
  induction k with
  | zero => simp [preS]
  | succ k ih =>
    have h1 := ih (by omega)
    have h2 := waits_bound (show k < (waitsL M B C J).length by omega)
    simp only [preS]
    omega
theorem preS_sum {M B C J : Int} {k : Nat} (hk : k ≤ (waitsL M B C J).length) : preS (waitsL M B C J) k = sumW B C (List.range k) := by
  induction k with
  | zero => rfl
  | succ k ih =>
    rw [sumW_succ, ← ih (by omega), ← (waits_at (show k < (waitsL M B C J).length by omega)).2.2]; rfl
theorem waits_len_ok {M B C J : Int} (h : okR M B C J) : (waitsL M B C J).length = M.toNat := by unfold waitsL; rw [if_pos h]; simp
theorem totI_eq (M B C J : Int) : totI M B C J = preS (waitsL M B C J) (waitsL M B C J).length := by
  by_cases h : okR M B C J
  · rw [preS_sum (Nat.le_refl _), waits_len_ok h]; exact if_pos h
  · have : waitsL M B C J = [] := if_neg h
    rw [this]; exact if_neg h
theorem reachO_eq (M B C J : Int) : reachO M B C J = (List.range (waitsL M B C J).length).find? (fun k => at_ (waitsL M B C J) k == C) := by
  by_cases h : okR M B C J
  · have e : reachO M B C J = (List.range M.toNat).find? (fun k => wAt B C k == C) := if_pos h
    rw [e, waits_len_ok h]
    exact find_congr (fun k hk => by rw [(waits_at (by rw [waits_len_ok h]; exact hk)).2.2])
  · have : waitsL M B C J = [] := if_neg h
    rw [this]; exact if_neg h
theorem withO_eq {M B C J : Int} (h : okR M B C J) (s : Int) : withO M B C J s = (List.range (waitsL M B C J).length).find? (fun i => decide (s < preS (waitsL M B C J) (i + 1))) := by
  unfold withO
  rw [waits_len_ok h]
  exact find_congr (fun k hk => by rw [preS_sum (by rw [waits_len_ok h]; omega)])
theorem longI_eq (M B C J : Int) : longI M B C J = if (waitsL M B C J).length = 0 then 0 else at_ (waitsL M B C J) ((waitsL M B C J).length - 1) + max (J - 1) 0 := by
  by_cases h : okR M B C J
  · have hl := waits_len_ok h
    by_cases h0 : (waitsL M B C J).length = 0
    · rw [if_pos h0]; exact if_neg (by intro h2; have := h2.2; omega)
    · rw [if_neg h0, (waits_at (show (waitsL M B C J).length - 1 < (waitsL M B C J).length by omega)).2.2, hl]
      have : longI M B C J = wAt B C (M - 1).toNat + max (J - 1) 0 := if_pos ⟨h, by omega⟩
      rw [this]; congr 2; omega
  · have : waitsL M B C J = [] := if_neg h
    rw [this]; exact if_neg (fun h2 => h h2.1)
theorem chk_len {M B C J : Int} (h : chkE M B C J ≠ 0) : (waitsL M B C J).length = 0 := by
  have : ¬ okR M B C J := fun hk => h (if_pos hk)
  have : waitsL M B C J = [] := if_neg this
  rw [this]; rfl
theorem chk_ok {M B C J : Int} (h : chkE M B C J = 0) : okR M B C J := by
  unfold chkE at h; split at h
  · assumption
  · cases h

set_option maxHeartbeats 2000000 in
theorem rtotal_any (M B C J : Int) (w : World) :
    Calls Try.prog 20 #[.agg #[.int .i64 M, .int .i64 B, .int .i64 C, .int .i64 J]] w fun e w' => e = .returned (.tuple #[.int .i64 (totI M B C J), .int .i64 (chkE M B C J)]) ∧ G w w' := by
  rw [totI_eq]
  have hl := waits_len M B C J
  have HB := Lib.hid (fun k (h : k < (waitsL M B C J).length) => waits_bound h)
  have HS := Lib.hid (fun k (h : k ≤ (waitsL M B C J).length) => preS_bound h)
  generalize hL : waitsL M B C J = L at *
  generalize hE : chkE M B C J = E at *
  replace hL := Lib.hid hL
  replace hE := Lib.hid hE
  go_enter Try.func20, Try.ntmps20
  go_wp2_with fail
  refine (rlist_any M B C J _).mono ?_
  rintro e w1 ⟨v, rfl, own, g1⟩
  rw [hL.out] at own
  rw [hE.out]
  obtain ⟨A, cap, rfl, hcap, hmax, hrd⟩ := Rd.of_own own
  have gW : G w w1 := ((G.refl w).alloc _).trans g1
  rw [vI_len] at hcap hrd ⊢
  have HR := Lib.hid hrd
  clear own hrd g1
  go_wp2_with fail
  go_loopw [6, 7] (fun ov iv wr => ∃ k : Nat, k ≤ L.length ∧ iv = .int .i64 k ∧ ov = .int .i64 (preS L k) ∧ G w1 wr) (fun _ iv _ => L.length - (intOf iv).toNat)
  case atStart => exact ⟨0, by omega, rfl, rfl, G.refl _⟩
  case round =>
    obtain ⟨k, hk, rfl, rfl, hg⟩ := hrel
    by_cases hlt : k < L.length
    · obtain ⟨b, o, rfl, hc⟩ := HR.out (by omega)
      have d0 := at_vQ hc hlt
      have d0 := hg.cell (World.block_lt_of_cell? w1 _ d0) d0
      have b1 := HB.out k hlt
      have b2 := HS.out k hk
      have HE : Hid (preS L (k + 1) = preS L k + at_ L k) := Lib.hid rfl
      clear hc
      generalize at_ L k = x at *
      generalize preS L k = y at *
      have hkl : (k : Int) < L.length := by omega
      go_wp2_with fail
      go_roundw
      case rel => exact ⟨k + 1, by omega, by go_num, by rw [HE.out], hg⟩
      case measure => simp [intOf]; omega
    · obtain rfl : k = L.length := by omega
      go_wp2_with fail
      go_ret2
      exact ⟨rfl, gW.trans hg⟩
set_option maxHeartbeats 2000000 in
theorem rreaches_any (M B C J : Int) (w : World) :
    Calls Try.prog 23 #[.agg #[.int .i64 M, .int .i64 B, .int .i64 C, .int .i64 J]] w fun e w' => e = .returned (.tuple #[.int .i64 (reachI M B C J), .bool (reachB M B C J), .int .i64 (chkE M B C J)]) ∧ G w w' := by
  have hl := waits_len M B C J
  have HO := Lib.hid (reachO_eq M B C J)
  have HN := Lib.hid (show chkE M B C J ≠ 0 → (waitsL M B C J).length = 0 from chk_len)
  have HI : Hid (reachI M B C J = match reachO M B C J with | some k => (k : Int) + 1 | none => 0) := Lib.hid rfl
  have HB : Hid (reachB M B C J = match reachO M B C J with | some _ => true | none => false) := Lib.hid rfl
  generalize hL : waitsL M B C J = L at *
  generalize hE : chkE M B C J = E at *
  generalize reachI M B C J = rI at *
  generalize reachB M B C J = rB at *
  generalize reachO M B C J = rO at *
  replace hL := Lib.hid hL
  replace hE := Lib.hid hE
  go_enter Try.func23, Try.ntmps23
  go_wp2_with fail
  refine (rlist_any M B C J _).mono ?_
  rintro e w1 ⟨v, rfl, own, g1⟩
  rw [hL.out] at own
  rw [hE.out]
  obtain ⟨A, cap, rfl, hcap, hmax, hrd⟩ := Rd.of_own own
  have hr : Blk w1 w.heap.size 23 #[.int .i64 M, .int .i64 B, .int .i64 C, .int .i64 J] := Blk.g (Blk.new w _ _) g1
  have x2 : w1.cell? ⟨w.heap.size, 2, none⟩ = some (.int .i64 C) := hr.cell 2
  have gW : G w w1 := ((G.refl w).alloc _).trans g1
  rw [vI_len] at hcap hrd ⊢
  have HR := Lib.hid hrd
  clear own hrd g1
  go_wp2_with fail
  go_loopw [7] (fun iv wr => ∃ k : Nat, k ≤ L.length ∧ iv = .int .i64 k ∧ Hid (∀ j, j < k → at_ L j ≠ C) ∧ G w1 wr) (fun iv _ => L.length - (intOf iv).toNat)
  case atStart => exact ⟨0, by omega, rfl, Lib.hid (fun j hj => by omega), G.refl _⟩
  case round =>
    obtain ⟨k, hk, rfl, HJ, hg⟩ := hrel
    have x2 : wr.cell? ⟨w.heap.size, 2, none⟩ = some (.int .i64 C) := Blk.cell (hr.g hg) 2
    by_cases hlt : k < L.length
    · obtain ⟨b, o, rfl, hc⟩ := HR.out (by omega)
      have d0 := at_vQ hc hlt
      have d0 := hg.cell (World.block_lt_of_cell? w1 _ d0) d0
      clear hE hL
      have HE0 : Hid (E = 0) := Lib.hid (Classical.byContradiction (fun h => by have := HN.out h; omega))
      clear hc
      have hkl : (k : Int) < L.length := by omega
      by_cases hx : at_ L k = C
      · have ho : rO = some k := by
          rw [HO.out, List.find?_range_eq_some]
          exact ⟨by simpa using hx, by simpa using hlt, fun j hj => by simpa using HJ.out j hj⟩
        have hI := HI.out
        have hB := HB.out
        rw [ho] at hI hB
        simp only at hI hB
        have hx' : (at_ L k == C) = true := by simpa using hx
        have hE := HE0.out
        subst hI hB hE
        clear hx
        go_wp2_with fail
        go_quiet (fail)
        go_wp2_with fail
        go_ret3
        exact ⟨rfl, gW.trans (hg.drewN _)⟩
      · have hx' : (at_ L k == C) = false := by simpa using hx
        have hx2 : decide (at_ L k = C) = false := by simpa using hx
        have HJ2 : Hid (∀ j, j < k + 1 → at_ L j ≠ C) := Lib.hid (fun j hj => by
          by_cases e : j = k
          · rw [e]; exact hx
          · exact HJ.out j (by omega))
        go_wp2_with fail
        go_quiet (fail)
        go_wp2_with fail
        go_roundw
        case rel => exact ⟨k + 1, by omega, by go_num, HJ2, hg.drewN _⟩
        case measure => simp [intOf]; omega
    · obtain rfl : k = L.length := by omega
      have ho : rO = none := by
        rw [HO.out, List.find?_eq_none]
        intro j hj
        simpa using HJ.out j (by simpa using hj)
      have hI := HI.out
      have hB := HB.out
      rw [ho] at hI hB
      simp only at hI hB
      subst hI hB
      go_wp2_with fail
      go_ret3
      exact ⟨rfl, gW.trans hg⟩
set_option maxHeartbeats 2000000 in
theorem rwithin_any (M B C J s : Int) (w : World) :
    Calls Try.prog 27 #[.agg #[.int .i64 M, .int .i64 B, .int .i64 C, .int .i64 J], .int .i64 s] w fun e w' => e = .returned (.tuple #[.int .i64 (withI M B C J s), .int .i64 (withE M B C J s)]) ∧ G w w' := by
  have hl := waits_len M B C J
  by_cases hE : chkE M B C J = 0
  · have hok := chk_ok hE
    by_cases hs : 0 ≤ s ∧ s ≤ 68719476736
    · obtain ⟨s0, s1⟩ := hs
      have d0 : decide (s < 0) = false := by simp; omega
      have d1 : decide (68719476736 < s) = false := by simp; omega
      have h1 : withE M B C J s = 0 := by unfold withE; rw [if_pos hok, if_pos ⟨s0, s1⟩]
      have h2 : withI M B C J s = (match withO M B C J s with | some i => (i : Int) | none => M) := if_pos ⟨hok, s0, s1⟩
      have h3 : M = (waitsL M B C J).length := by rw [waits_len_ok hok]; unfold okR at hok; omega
      have HO := Lib.hid (withO_eq hok s)
      have HI : Hid (withI M B C J s = (match withO M B C J s with | some i => (i : Int) | none => ((waitsL M B C J).length : Int))) := Lib.hid (by rw [h2, ← h3])
      have HB := Lib.hid (fun k (h : k < (waitsL M B C J).length) => waits_bound h)
      have HS := Lib.hid (fun k (h : k ≤ (waitsL M B C J).length) => preS_bound h)
      rw [h1]
      have HEE := Lib.hid hE
      clear h1 h2 h3 hok hE
      generalize hL : waitsL M B C J = L at *
      generalize withI M B C J s = rI at *
      generalize withO M B C J s = rO at *
      replace hL := Lib.hid hL
      go_enter Try.func27, Try.ntmps27
      go_wp2_with fail
      refine (rlist_any M B C J _).mono ?_
      rintro e w1 ⟨v, rfl, own, g1⟩
      rw [HEE.out]
      rw [hL.out] at own
      obtain ⟨A, cap, rfl, hcap, hmax, hrd⟩ := Rd.of_own own
      have gW : G w w1 := ((G.refl w).alloc _).trans g1
      rw [vI_len] at hcap hrd ⊢
      have HR := Lib.hid hrd
      clear HEE own hrd g1
      go_wp2_with fail
      go_loopw [8, 9] (fun ov iv wr => ∃ k : Nat, k ≤ L.length ∧ iv = .int .i64 k ∧ ov = .int .i64 (preS L k) ∧ Hid (∀ j, j < k → preS L (j + 1) ≤ s) ∧ G w1 wr) (fun _ iv _ => L.length - (intOf iv).toNat)
      case atStart => exact ⟨0, by omega, rfl, rfl, Lib.hid (fun j hj => by omega), G.refl _⟩
      case round =>
        obtain ⟨k, hk, rfl, rfl, HJ, hg⟩ := hrel
        by_cases hlt : k < L.length
        · obtain ⟨b, o, rfl, hc⟩ := HR.out (by omega)
          have d3 := at_vQ hc hlt
          have d3 := hg.cell (World.block_lt_of_cell? w1 _ d3) d3
          have b1 := HB.out k hlt
          have b2 := HS.out k hk
          have HE : Hid (preS L (k + 1) = preS L k + at_ L k) := Lib.hid rfl
          clear hc
          have hkl : (k : Int) < L.length := by omega
          by_cases hx : s < preS L k + at_ L k
          · have ho : rO = some k := by
              rw [HO.out, List.find?_range_eq_some]
              exact ⟨by rw [HE.out]; simpa using hx, by simpa using hlt, fun j hj => by simpa using HJ.out j hj⟩
            have hI := HI.out
            rw [ho] at hI
            simp only at hI
            subst hI
            generalize at_ L k = x at *
            generalize preS L k = y at *
            go_wp2_with fail
            go_ret2
            exact ⟨rfl, gW.trans hg⟩
          · have HJ2 : Hid (∀ j, j < k + 1 → preS L (j + 1) ≤ s) := Lib.hid (fun j hj => by
              by_cases e : j = k
              · rw [e, HE.out]; omega
              · exact HJ.out j (by omega))
            have hx' : decide (s < preS L k + at_ L k) = false := by simpa using hx
            generalize at_ L k = x at *
            generalize preS L k = y at *
            go_wp2_with fail
            go_roundw
            case rel => exact ⟨k + 1, by omega, by go_num, by rw [HE.out], HJ2, hg⟩
            case measure => simp [intOf]; omega
        · obtain rfl : k = L.length := by omega
          have ho : rO = none := by
            rw [HO.out, List.find?_eq_none]
            intro j hj
            simpa using HJ.out j (by simpa using hj)
          have hI := HI.out
          rw [ho] at hI
          simp only at hI
          subst hI
          go_wp2_with fail
          go_ret2
          exact ⟨rfl, gW.trans hg⟩
    · have h1 : withE M B C J s = 2 := by unfold withE; rw [if_pos hok, if_neg hs]
      have h2 : withI M B C J s = 0 := if_neg (fun h => hs h.2)
      rw [h1, h2]
      have HEE := Lib.hid hE
      clear h1 h2 hok hE
      go_enter Try.func27, Try.ntmps27
      go_wp2_with fail
      refine (rlist_any M B C J _).mono ?_
      rintro e w1 ⟨v, rfl, own, g1⟩
      rw [HEE.out]
      have gW : G w w1 := ((G.refl w).alloc _).trans g1
      by_cases h0 : s < 0
      · go_wp2_with fail
        go_ret2
        exact ⟨rfl, gW⟩
      · have d0 : decide (s < 0) = false := by simpa using h0
        have d1 : 68719476736 < s := by omega
        clear hs h0
        go_wp2_with fail
        go_ret2
        exact ⟨rfl, gW⟩
  · have h0 : chkE M B C J = 16 := by unfold chkE at hE ⊢; split at hE <;> simp_all
    have hok : ¬ okR M B C J := fun h => hE (if_pos h)
    have h1 : withE M B C J s = 16 := if_neg hok
    have h2 : withI M B C J s = 0 := if_neg (fun h => hok h.1)
    rw [h1, h2]
    have HEE := Lib.hid h0
    clear h1 h2 hok hE h0
    go_enter Try.func27, Try.ntmps27
    go_wp2_with fail
    refine (rlist_any M B C J _).mono ?_
    rintro e w1 ⟨v, rfl, own, g1⟩
    rw [HEE.out]
    have gW : G w w1 := ((G.refl w).alloc _).trans g1
    go_wp2_with fail
    go_ret2
    exact ⟨rfl, gW⟩
set_option maxHeartbeats 2000000 in
theorem rlongest_any (M B C J : Int) (w : World) :
    Calls Try.prog 25 #[.agg #[.int .i64 M, .int .i64 B, .int .i64 C, .int .i64 J]] w fun e w' => e = .returned (.tuple #[.int .i64 (longI M B C J), .int .i64 (chkE M B C J)]) ∧ G w w' := by
  have hl := waits_len M B C J
  rw [longI_eq]
  have HB := Lib.hid (fun k (h : k < (waitsL M B C J).length) => waits_bound h)
  by_cases hE : chkE M B C J = 0
  · have hok := chk_ok hE
    have hJ : 0 ≤ J ∧ J ≤ 68719476736 := by unfold okR at hok; omega
    rw [hE]
    have HEE := Lib.hid hE
    clear hE hok
    by_cases h0 : (waitsL M B C J).length = 0
    · rw [if_pos h0]
      go_enter Try.func25, Try.ntmps25
      go_wp2_with fail
      refine (rlist_any M B C J _).mono ?_
      rintro e w1 ⟨v, rfl, own, g1⟩
      rw [HEE.out]
      have gW : G w w1 := ((G.refl w).alloc _).trans g1
      obtain ⟨A, cap, rfl, hcap, hmax, hrd⟩ := Rd.of_own own
      rw [vI_len, h0]
      clear own hrd hcap
      go_wp2_with fail
      go_ret2
      exact ⟨rfl, gW⟩
    · rw [if_neg h0]
      obtain ⟨n, hn⟩ : ∃ n, (waitsL M B C J).length = n + 1 := ⟨(waitsL M B C J).length - 1, by omega⟩
      rw [hn, Nat.add_sub_cancel]
      have b1 := HB.out n (by omega)
      have HD : Hid (∀ (w1 : World) (b o : Nat), (∀ j u, (vI .i64 (waitsL M B C J))[j]? = some u → w1.cell? ⟨b, o + j, none⟩ = some u) → w1.cell? ⟨b, o + n, none⟩ = some (.int .i64 (at_ (waitsL M B C J) n))) := Lib.hid (fun w1 b o hc => at_vQ hc (by omega))
      have HNN := Lib.hid hn
      generalize hx : at_ (waitsL M B C J) n = x at *
      clear h0 hn HB hl
      go_enter Try.func25, Try.ntmps25
      go_wp2_with fail
      refine (rlist_any M B C J _).mono ?_
      rintro e w1 ⟨v, rfl, own, g1⟩
      rw [HEE.out]
      have gW : G w w1 := ((G.refl w).alloc _).trans g1
      have hr : Blk w1 w.heap.size 23 #[.int .i64 M, .int .i64 B, .int .i64 C, .int .i64 J] := Blk.g (Blk.new w _ _) g1
      have x3 : w1.cell? ⟨w.heap.size, 3, none⟩ = some (.int .i64 J) := hr.cell 3
      obtain ⟨A, cap, rfl, hcap, hmax, hrd⟩ := Rd.of_own own
      rw [vI_len, HNN.out] at hcap hrd
      obtain ⟨b, o, rfl, hc⟩ := hrd (by omega)
      have d0 := HD.out w1 b o hc
      rw [vI_len, HNN.out]
      have hne : (((n + 1 : Nat) : Int) == 0) = false := by simp; omega
      clear own hc HEE HD HNN hrd hx
      go_wp2_with fail
      go_quiet (fail)
      go_wp2_with fail
      all_goals (
        go_ret2
        refine ⟨?_, gW.drewN _⟩
        first
          | (rw [show max (J - 1) 0 = J - 1 by omega]; rfl)
          | (rw [show max (J - 1) 0 = 0 by omega, Int.add_zero]; rfl))
  · have h0 := chk_len hE
    have h1 : chkE M B C J = 16 := by unfold chkE at hE ⊢; split at hE <;> simp_all
    rw [if_pos h0, h1]
    have HEE := Lib.hid h1
    clear hE h0 h1
    go_enter Try.func25, Try.ntmps25
    go_wp2_with fail
    refine (rlist_any M B C J _).mono ?_
    rintro e w1 ⟨v, rfl, own, g1⟩
    rw [HEE.out]
    have gW : G w w1 := ((G.refl w).alloc _).trans g1
    go_wp2_with fail
    go_ret2
    exact ⟨rfl, gW⟩
end Go.Proofs.Ytabgddiecddbhaa
