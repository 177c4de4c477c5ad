/-
  Contracts of Restore, in gcra and in the document.
-/
import Derived.Test.YtgookddningjpaaRefJ
set_option linter.unusedVariables false
set_option linter.unusedSimpArgs false
namespace Go.Proofs.Ytgookddningjpaa
open Go.RowKit

set_option maxRecDepth 4000 in
set_option maxHeartbeats 1600000 in
theorem restore_rule (T U tat now : Int) (h : ¬ validL T U) (w : World) :
    Calls Try.prog 33 #[.agg #[.int .i64 T, .int .i64 U], .int .i64 tat, .int .i64 now] w fun e w' => e = .returned (.tuple #[.pointer none, .int .i64 16]) ∧ G w w' := by
  have HV := Lib.hid h
  clear h
  go_enter Try.func33, Try.ntmps33
  go_wp2_with fail
  refine (new_no T U HV.out _).mono ?_
  rintro e w1 ⟨rfl, g1⟩
  go_wp2_with fail
  go_ret2
  exact ⟨rfl, (by repeat (first | exact G.refl _ | refine G.alloc ?_ _ | refine G.drewN ?_ _ | refine G.drew ?_ | refine G.trans ?_ (by assumption)))⟩
set_option maxRecDepth 4000 in
set_option maxHeartbeats 1600000 in
theorem restore_time (T U tat now : Int) (h : validL T U) (hn : ¬ isT now) (w : World) :
    Calls Try.prog 33 #[.agg #[.int .i64 T, .int .i64 U], .int .i64 tat, .int .i64 now] w fun e w' => e = .returned (.tuple #[.pointer none, .int .i64 14]) ∧ G w w' := by
  have HV := Lib.hid h
  have HN := Lib.hid hn
  clear h hn
  go_enter Try.func33, Try.ntmps33
  go_wp2_with fail
  refine (new_yes T U HV.out _).mono ?_
  rintro e w1 ⟨kL, rfl, hkL, g1, hL⟩
  have hX1 := (Blk.new w 24 #[.int .i64 T, .int .i64 U]).g g1
  have gW1 : G w w1 := (by repeat (first | exact G.refl _ | refine G.alloc ?_ _ | refine G.drewN ?_ _ | refine G.drew ?_ | refine G.trans ?_ (by assumption)))
  have x0 : w1.cell? ⟨w.heap.size, 0, none⟩ = some (.int .i64 T) := hX1.cell 0
  have x1 : w1.cell? ⟨w.heap.size, 1, none⟩ = some (.int .i64 U) := hX1.cell 1
  have hkw : w.heap.size ≤ kL := by simp at hkL; omega
  go_wp2_with fail
  refine (isTime_no now HN.out _).mono ?_
  rintro e w2 ⟨rfl, rfl⟩
  go_wp2_with fail
  go_ret2
  exact ⟨rfl, (by repeat (first | exact G.refl _ | refine G.alloc ?_ _ | refine G.drewN ?_ _ | refine G.drew ?_ | refine G.trans ?_ (by assumption)))⟩
set_option maxRecDepth 4000 in
set_option maxHeartbeats 1600000 in
theorem restore_new (T U tat now : Int) (h : validL T U) (hn : isT now) (ht : tat = -1) (w : World) :
    Calls Try.prog 33 #[.agg #[.int .i64 T, .int .i64 U], .int .i64 tat, .int .i64 now] w fun e w' => ∃ k, e = .returned (.tuple #[.pointer (some ⟨k, 0, none⟩), .int .i64 0]) ∧ w.heap.size ≤ k ∧ G w w' ∧ Lim w' k false 0 0 T U := by
  have HV := Lib.hid h
  have HN := Lib.hid hn
  obtain ⟨⟨t0, t1⟩, ⟨u0, u1⟩, -⟩ := h
  obtain ⟨n0, n1⟩ := hn
  subst ht
  go_enter Try.func33, Try.ntmps33
  go_wp2_with fail
  refine (new_yes T U HV.out _).mono ?_
  rintro e w1 ⟨kL, rfl, hkL, g1, hL⟩
  have hX1 := (Blk.new w 24 #[.int .i64 T, .int .i64 U]).g g1
  have gW1 : G w w1 := (by repeat (first | exact G.refl _ | refine G.alloc ?_ _ | refine G.drewN ?_ _ | refine G.drew ?_ | refine G.trans ?_ (by assumption)))
  have x0 : w1.cell? ⟨w.heap.size, 0, none⟩ = some (.int .i64 T) := hX1.cell 0
  have x1 : w1.cell? ⟨w.heap.size, 1, none⟩ = some (.int .i64 U) := hX1.cell 1
  have hkw : w.heap.size ≤ kL := by simp at hkL; omega
  go_wp2_with fail
  refine (isTime_yes now HN.out _).mono ?_
  rintro e w2 ⟨rfl, rfl⟩
  go_wp2_with fail
  go_ret2
  exact ⟨kL, rfl, hkw, gW1, hL⟩
set_option maxRecDepth 4000 in
set_option maxHeartbeats 1600000 in
theorem restore_arg (T U tat now : Int) (h : validL T U) (hn : isT now) (ht : tat ≠ -1) (ha : tat < T ∨ now + T + U < tat) (w : World) :
    Calls Try.prog 33 #[.agg #[.int .i64 T, .int .i64 U], .int .i64 tat, .int .i64 now] w fun e w' => e = .returned (.tuple #[.pointer none, .int .i64 2]) ∧ G w w' := by
  have HV := Lib.hid h
  have HN := Lib.hid hn
  obtain ⟨⟨t0, t1⟩, ⟨u0, u1⟩, -⟩ := h
  obtain ⟨n0, n1⟩ := hn
  have b0 : (tat == -1) = false := by simpa using ht
  clear ht
  by_cases h0 : tat < T
  · have h0' : decide (tat < T) = true := by simpa using h0
    clear ha
    go_enter Try.func33, Try.ntmps33
    go_wp2_with fail
    refine (new_yes T U HV.out _).mono ?_
    rintro e w1 ⟨kL, rfl, hkL, g1, hL⟩
    have hX1 := (Blk.new w 24 #[.int .i64 T, .int .i64 U]).g g1
    have gW1 : G w w1 := (by repeat (first | exact G.refl _ | refine G.alloc ?_ _ | refine G.drewN ?_ _ | refine G.drew ?_ | refine G.trans ?_ (by assumption)))
    have x0 : w1.cell? ⟨w.heap.size, 0, none⟩ = some (.int .i64 T) := hX1.cell 0
    have x1 : w1.cell? ⟨w.heap.size, 1, none⟩ = some (.int .i64 U) := hX1.cell 1
    have hkw : w.heap.size ≤ kL := by simp at hkL; omega
    go_wp2_with fail
    refine (isTime_yes now HN.out _).mono ?_
    rintro e w2 ⟨rfl, rfl⟩
    go_wp2_with fail
    go_ret2
    exact ⟨rfl, gW1⟩
  · have h0' : decide (tat < T) = false := by simpa using h0
    have h1 : decide (now + T + U < tat) = true := by simp; omega
    clear ha
    go_enter Try.func33, Try.ntmps33
    go_wp2_with fail
    refine (new_yes T U HV.out _).mono ?_
    rintro e w1 ⟨kL, rfl, hkL, g1, hL⟩
    have hX1 := (Blk.new w 24 #[.int .i64 T, .int .i64 U]).g g1
    have gW1 : G w w1 := (by repeat (first | exact G.refl _ | refine G.alloc ?_ _ | refine G.drewN ?_ _ | refine G.drew ?_ | refine G.trans ?_ (by assumption)))
    have x0 : w1.cell? ⟨w.heap.size, 0, none⟩ = some (.int .i64 T) := hX1.cell 0
    have x1 : w1.cell? ⟨w.heap.size, 1, none⟩ = some (.int .i64 U) := hX1.cell 1
    have hkw : w.heap.size ≤ kL := by simp at hkL; omega
    go_wp2_with fail
    refine (isTime_yes now HN.out _).mono ?_
    rintro e w2 ⟨rfl, rfl⟩
    go_wp2_with fail
    go_ret2
    exact ⟨rfl, gW1⟩
set_option maxRecDepth 4000 in
set_option maxHeartbeats 1600000 in
theorem restore_yes (T U tat now : Int) (h : validL T U) (hn : isT now) (ht : tat ≠ -1) (ha : ¬ (tat < T ∨ now + T + U < tat)) (w : World) :
    Calls Try.prog 33 #[.agg #[.int .i64 T, .int .i64 U], .int .i64 tat, .int .i64 now] w fun e w' => ∃ k, e = .returned (.tuple #[.pointer (some ⟨k, 0, none⟩), .int .i64 0]) ∧ w.heap.size ≤ k ∧ G w w' ∧ Lim w' k true tat now T U := by
  have HV := Lib.hid h
  have HN := Lib.hid hn
  obtain ⟨⟨t0, t1⟩, ⟨u0, u1⟩, -⟩ := h
  obtain ⟨n0, n1⟩ := hn
  have b0 : (tat == -1) = false := by simpa using ht
  have b1 : decide (tat < T) = false := by simp; omega
  have b2 : decide (now + T + U < tat) = false := by simp; omega
  clear ht ha
  go_enter Try.func33, Try.ntmps33
  go_wp2_with fail
  refine (new_yes T U HV.out _).mono ?_
  rintro e w1 ⟨kL, rfl, hkL, g1, hL⟩
  have hX1 := (Blk.new w 24 #[.int .i64 T, .int .i64 U]).g g1
  have gW1 : G w w1 := (by repeat (first | exact G.refl _ | refine G.alloc ?_ _ | refine G.drewN ?_ _ | refine G.drew ?_ | refine G.trans ?_ (by assumption)))
  have x0 : w1.cell? ⟨w.heap.size, 0, none⟩ = some (.int .i64 T) := hX1.cell 0
  have x1 : w1.cell? ⟨w.heap.size, 1, none⟩ = some (.int .i64 U) := hX1.cell 1
  have hkw : w.heap.size ≤ kL := by simp at hkL; omega
  go_wp2_with fail
  have k0 : w1.cell? ⟨kL, 0, none⟩ = some (.bool false) := hL.cell 0
  have k1 : w1.cell? ⟨kL, 1, none⟩ = some (.int .i64 0) := hL.cell 1
  have k2 : w1.cell? ⟨kL, 2, none⟩ = some (.int .i64 0) := hL.cell 2
  have f0 := hL.frozen 0
  have f1 := hL.frozen 1
  have f2 := hL.frozen 2
  refine (isTime_yes now HN.out _).mono ?_
  rintro e w2 ⟨rfl, rfl⟩
  go_wp2_with fail
  go_ret2
  exact ⟨kL, rfl, hkw, (((gW1.setCell (p := ⟨kL, 0, none⟩) hkw _).setCell (p := ⟨kL, 1, none⟩) hkw _).setCell (p := ⟨kL, 2, none⟩) hkw _), ((hL.set_ 0 _).set_ 1 _).set_ 2 _⟩
set_option maxRecDepth 4000 in
set_option maxHeartbeats 1600000 in
theorem rrestore_rule (T U tat now : Int) (h : ¬ validL T U) (w : World) :
    Calls Try.prog 34 #[.agg #[.int .i64 T, .int .i64 U], .int .i64 tat, .int .i64 now] w fun e w' => e = .returned (.tuple #[.pointer none, .int .i64 16]) ∧ G w w' := by
  have HV := Lib.hid h
  clear h
  go_enter Try.func34, Try.ntmps34
  go_wp2_with fail
  refine (rnew_no T U HV.out _).mono ?_
  rintro e w1 ⟨rfl, g1⟩
  go_wp2_with fail
  go_ret2
  exact ⟨rfl, (by repeat (first | exact G.refl _ | refine G.alloc ?_ _ | refine G.drewN ?_ _ | refine G.drew ?_ | refine G.trans ?_ (by assumption)))⟩
set_option maxRecDepth 4000 in
set_option maxHeartbeats 1600000 in
theorem rrestore_time (T U tat now : Int) (h : validL T U) (hn : ¬ isT now) (w : World) :
    Calls Try.prog 34 #[.agg #[.int .i64 T, .int .i64 U], .int .i64 tat, .int .i64 now] w fun e w' => e = .returned (.tuple #[.pointer none, .int .i64 14]) ∧ G w w' := by
  have HV := Lib.hid h
  have HN := Lib.hid hn
  clear h hn
  by_cases h0 : now < 0
  · clear HN
    go_enter Try.func34, Try.ntmps34
    go_wp2_with fail
    refine (rnew_yes T U HV.out _).mono ?_
    rintro e w1 ⟨kL, rfl, hkL, g1, hL⟩
    have hX1 := (Blk.new w 24 #[.int .i64 T, .int .i64 U]).g g1
    have gW1 : G w w1 := (by repeat (first | exact G.refl _ | refine G.alloc ?_ _ | refine G.drewN ?_ _ | refine G.drew ?_ | refine G.trans ?_ (by assumption)))
    have x0 : w1.cell? ⟨w.heap.size, 0, none⟩ = some (.int .i64 T) := hX1.cell 0
    have x1 : w1.cell? ⟨w.heap.size, 1, none⟩ = some (.int .i64 U) := hX1.cell 1
    have hkw : w.heap.size ≤ kL := by simp at hkL; omega
    go_wp2_with fail
    go_ret2
    exact ⟨rfl, (by repeat (first | exact G.refl _ | refine G.alloc ?_ _ | refine G.drewN ?_ _ | refine G.drew ?_ | refine G.trans ?_ (by assumption)))⟩
  · have d0 : decide (now < 0) = false := by simpa using h0
    have d1 : 253402300799 < now := by have := HN.out; unfold isT at this; omega
    clear HN h0
    go_enter Try.func34, Try.ntmps34
    go_wp2_with fail
    refine (rnew_yes T U HV.out _).mono ?_
    rintro e w1 ⟨kL, rfl, hkL, g1, hL⟩
    have hX1 := (Blk.new w 24 #[.int .i64 T, .int .i64 U]).g g1
    have gW1 : G w w1 := (by repeat (first | exact G.refl _ | refine G.alloc ?_ _ | refine G.drewN ?_ _ | refine G.drew ?_ | refine G.trans ?_ (by assumption)))
    have x0 : w1.cell? ⟨w.heap.size, 0, none⟩ = some (.int .i64 T) := hX1.cell 0
    have x1 : w1.cell? ⟨w.heap.size, 1, none⟩ = some (.int .i64 U) := hX1.cell 1
    have hkw : w.heap.size ≤ kL := by simp at hkL; omega
    go_wp2_with fail
    go_ret2
    exact ⟨rfl, (by repeat (first | exact G.refl _ | refine G.alloc ?_ _ | refine G.drewN ?_ _ | refine G.drew ?_ | refine G.trans ?_ (by assumption)))⟩
set_option maxRecDepth 4000 in
set_option maxHeartbeats 1600000 in
theorem rrestore_new (T U tat now : Int) (h : validL T U) (hn : isT now) (ht : tat = -1) (w : World) :
    Calls Try.prog 34 #[.agg #[.int .i64 T, .int .i64 U], .int .i64 tat, .int .i64 now] w fun e w' => ∃ k, e = .returned (.tuple #[.pointer (some ⟨k, 0, none⟩), .int .i64 0]) ∧ w.heap.size ≤ k ∧ G w w' ∧ RLim w' k false 0 0 T U := by
  have HV := Lib.hid h
  have HN := Lib.hid hn
  obtain ⟨⟨t0, t1⟩, ⟨u0, u1⟩, -⟩ := h
  obtain ⟨n0, n1⟩ := hn
  have d0 : decide (now < 0) = false := by simp; omega
  have d1 : decide (253402300799 < now) = false := by simp; omega
  subst ht
  go_enter Try.func34, Try.ntmps34
  go_wp2_with fail
  refine (rnew_yes T U HV.out _).mono ?_
  rintro e w1 ⟨kL, rfl, hkL, g1, hL⟩
  have hX1 := (Blk.new w 24 #[.int .i64 T, .int .i64 U]).g g1
  have gW1 : G w w1 := (by repeat (first | exact G.refl _ | refine G.alloc ?_ _ | refine G.drewN ?_ _ | refine G.drew ?_ | refine G.trans ?_ (by assumption)))
  have x0 : w1.cell? ⟨w.heap.size, 0, none⟩ = some (.int .i64 T) := hX1.cell 0
  have x1 : w1.cell? ⟨w.heap.size, 1, none⟩ = some (.int .i64 U) := hX1.cell 1
  have hkw : w.heap.size ≤ kL := by simp at hkL; omega
  go_wp2_with fail
  go_ret2
  exact ⟨kL, rfl, hkw, gW1, hL⟩
set_option maxRecDepth 4000 in
set_option maxHeartbeats 1600000 in
theorem rrestore_arg (T U tat now : Int) (h : validL T U) (hn : isT now) (ht : tat ≠ -1) (ha : tat < T ∨ now + T + U < tat) (w : World) :
    Calls Try.prog 34 #[.agg #[.int .i64 T, .int .i64 U], .int .i64 tat, .int .i64 now] w fun e w' => e = .returned (.tuple #[.pointer none, .int .i64 2]) ∧ G w w' := by
  have HV := Lib.hid h
  have HN := Lib.hid hn
  obtain ⟨⟨t0, t1⟩, ⟨u0, u1⟩, -⟩ := h
  obtain ⟨n0, n1⟩ := hn
  have d0 : decide (now < 0) = false := by simp; omega
  have d1 : decide (253402300799 < now) = false := by simp; omega
  have b0 : (tat == -1) = false := by simpa using ht
  clear ht
  by_cases h0 : tat < T
  · have h0' : decide (tat < T) = true := by simpa using h0
    clear ha
    go_enter Try.func34, Try.ntmps34
    go_wp2_with fail
    refine (rnew_yes T U HV.out _).mono ?_
    rintro e w1 ⟨kL, rfl, hkL, g1, hL⟩
    have hX1 := (Blk.new w 24 #[.int .i64 T, .int .i64 U]).g g1
    have gW1 : G w w1 := (by repeat (first | exact G.refl _ | refine G.alloc ?_ _ | refine G.drewN ?_ _ | refine G.drew ?_ | refine G.trans ?_ (by assumption)))
    have x0 : w1.cell? ⟨w.heap.size, 0, none⟩ = some (.int .i64 T) := hX1.cell 0
    have x1 : w1.cell? ⟨w.heap.size, 1, none⟩ = some (.int .i64 U) := hX1.cell 1
    have hkw : w.heap.size ≤ kL := by simp at hkL; omega
    go_wp2_with fail
    go_ret2
    exact ⟨rfl, gW1⟩
  · have h0' : decide (tat < T) = false := by simpa using h0
    have h1 : decide (now + T + U < tat) = true := by simp; omega
    clear ha
    go_enter Try.func34, Try.ntmps34
    go_wp2_with fail
    refine (rnew_yes T U HV.out _).mono ?_
    rintro e w1 ⟨kL, rfl, hkL, g1, hL⟩
    have hX1 := (Blk.new w 24 #[.int .i64 T, .int .i64 U]).g g1
    have gW1 : G w w1 := (by repeat (first | exact G.refl _ | refine G.alloc ?_ _ | refine G.drewN ?_ _ | refine G.drew ?_ | refine G.trans ?_ (by assumption)))
    have x0 : w1.cell? ⟨w.heap.size, 0, none⟩ = some (.int .i64 T) := hX1.cell 0
    have x1 : w1.cell? ⟨w.heap.size, 1, none⟩ = some (.int .i64 U) := hX1.cell 1
    have hkw : w.heap.size ≤ kL := by simp at hkL; omega
    go_wp2_with fail
    go_ret2
    exact ⟨rfl, gW1⟩
set_option maxRecDepth 4000 in
set_option maxHeartbeats 1600000 in
theorem rrestore_yes (T U tat now : Int) (h : validL T U) (hn : isT now) (ht : tat ≠ -1) (ha : ¬ (tat < T ∨ now + T + U < tat)) (w : World) :
    Calls Try.prog 34 #[.agg #[.int .i64 T, .int .i64 U], .int .i64 tat, .int .i64 now] w fun e w' => ∃ k, e = .returned (.tuple #[.pointer (some ⟨k, 0, none⟩), .int .i64 0]) ∧ w.heap.size ≤ k ∧ G w w' ∧ RLim w' k true tat now T U := by
  have HV := Lib.hid h
  have HN := Lib.hid hn
  obtain ⟨⟨t0, t1⟩, ⟨u0, u1⟩, -⟩ := h
  obtain ⟨n0, n1⟩ := hn
  have d0 : decide (now < 0) = false := by simp; omega
  have d1 : decide (253402300799 < now) = false := by simp; omega
  have b0 : (tat == -1) = false := by simpa using ht
  have b1 : decide (tat < T) = false := by simp; omega
  have b2 : decide (now + T + U < tat) = false := by simp; omega
  clear ht ha
  go_enter Try.func34, Try.ntmps34
  go_wp2_with fail
  refine (rnew_yes T U HV.out _).mono ?_
  rintro e w1 ⟨kL, rfl, hkL, g1, hL⟩
  have hX1 := (Blk.new w 24 #[.int .i64 T, .int .i64 U]).g g1
  have gW1 : G w w1 := (by repeat (first | exact G.refl _ | refine G.alloc ?_ _ | refine G.drewN ?_ _ | refine G.drew ?_ | refine G.trans ?_ (by assumption)))
  have x0 : w1.cell? ⟨w.heap.size, 0, none⟩ = some (.int .i64 T) := hX1.cell 0
  have x1 : w1.cell? ⟨w.heap.size, 1, none⟩ = some (.int .i64 U) := hX1.cell 1
  have hkw : w.heap.size ≤ kL := by simp at hkL; omega
  go_wp2_with fail
  go_ret2
  exact ⟨_, rfl, gW1.size, gW1.alloc _, Blk.new _ _ _⟩

/-- the error that Restore returns; the state that it restores -/
def restE (T U tat now : Int) : Int := if ¬ validL T U then 16 else if ¬ isT now then 14 else if tat = -1 then 0 else if tat < T ∨ now + T + U < tat then 2 else 0
def reS (tat : Int) : Bool := if tat = -1 then false else true
def reT (tat : Int) : Int := if tat = -1 then 0 else tat
def reL (tat now : Int) : Int := if tat = -1 then 0 else now
theorem restE_ok {T U tat now : Int} (h : restE T U tat now = 0) : validL T U ∧ isT now ∧ (tat = -1 ∨ (tat ≠ -1 ∧ ¬ (tat < T ∨ now + T + U < tat))) := by
  unfold restE at h
  split at h
  · cases h
  · split at h
    · cases h
    · rename_i h1 h2
      refine ⟨Classical.not_not.1 h1, Classical.not_not.1 h2, ?_⟩
      split at h
      · left; assumption
      · split at h
        · cases h
        · right; exact ⟨by assumption, by assumption⟩
theorem fine_re {T U tat now : Int} (h : restE T U tat now = 0) : Fine (reS tat) (reT tat) (reL tat now) T U := by
  obtain ⟨hv, hn, hc⟩ := restE_ok h
  unfold reS reT reL
  rcases hc with rfl | ⟨h1, h2⟩
  · rw [if_pos rfl, if_pos rfl, if_pos rfl]; exact Fine.new hv
  · rw [if_neg h1, if_neg h1, if_neg h1]
    obtain ⟨v1, v2, v3⟩ := hv
    obtain ⟨n0, n1⟩ := hn
    exact ⟨⟨v1, v2, ⟨by omega, by omega⟩, n0, n1⟩, (fun h => by cases h), fun _ => by omega⟩
theorem restore_fail (T U tat now : Int) (h : restE T U tat now ≠ 0) (w : World) :
    Calls Try.prog 33 #[.agg #[.int .i64 T, .int .i64 U], .int .i64 tat, .int .i64 now] w fun e w' => e = .returned (.tuple #[.pointer none, .int .i64 (restE T U tat now)]) ∧ G w w' := by
  unfold restE at h ⊢
  by_cases hv : validL T U
  · rw [if_neg (by simpa using hv)] at h ⊢
    by_cases hn : isT now
    · rw [if_neg (by simpa using hn)] at h ⊢
      by_cases ht : tat = -1
      · rw [if_pos ht] at h; exact absurd rfl h
      · rw [if_neg ht] at h ⊢
        by_cases ha : tat < T ∨ now + T + U < tat
        · rw [if_pos ha]; exact restore_arg T U tat now hv hn ht ha w
        · rw [if_neg ha] at h; exact absurd rfl h
    · rw [if_pos hn]; exact restore_time T U tat now hv hn w
  · rw [if_pos hv]; exact restore_rule T U tat now hv w
theorem restore_ok (T U tat now : Int) (h : restE T U tat now = 0) (w : World) :
    Calls Try.prog 33 #[.agg #[.int .i64 T, .int .i64 U], .int .i64 tat, .int .i64 now] w fun e w' => ∃ k, e = .returned (.tuple #[.pointer (some ⟨k, 0, none⟩), .int .i64 0]) ∧ w.heap.size ≤ k ∧ G w w' ∧ Lim w' k (reS tat) (reT tat) (reL tat now) T U := by
  obtain ⟨hv, hn, hc⟩ := restE_ok h
  unfold reS reT reL
  rcases hc with rfl | ⟨h1, h2⟩
  · rw [if_pos rfl, if_pos rfl, if_pos rfl]; exact restore_new T U (-1) now hv hn rfl w
  · rw [if_neg h1, if_neg h1, if_neg h1]; exact restore_yes T U tat now hv hn h1 h2 w
theorem rrestore_fail (T U tat now : Int) (h : restE T U tat now ≠ 0) (w : World) :
    Calls Try.prog 34 #[.agg #[.int .i64 T, .int .i64 U], .int .i64 tat, .int .i64 now] w fun e w' => e = .returned (.tuple #[.pointer none, .int .i64 (restE T U tat now)]) ∧ G w w' := by
  unfold restE at h ⊢
  by_cases hv : validL T U
  · rw [if_neg (by simpa using hv)] at h ⊢
    by_cases hn : isT now
    · rw [if_neg (by simpa using hn)] at h ⊢
      by_cases ht : tat = -1
      · rw [if_pos ht] at h; exact absurd rfl h
      · rw [if_neg ht] at h ⊢
        by_cases ha : tat < T ∨ now + T + U < tat
        · rw [if_pos ha]; exact rrestore_arg T U tat now hv hn ht ha w
        · rw [if_neg ha] at h; exact absurd rfl h
    · rw [if_pos hn]; exact rrestore_time T U tat now hv hn w
  · rw [if_pos hv]; exact rrestore_rule T U tat now hv w
theorem rrestore_ok (T U tat now : Int) (h : restE T U tat now = 0) (w : World) :
    Calls Try.prog 34 #[.agg #[.int .i64 T, .int .i64 U], .int .i64 tat, .int .i64 now] w fun e w' => ∃ k, e = .returned (.tuple #[.pointer (some ⟨k, 0, none⟩), .int .i64 0]) ∧ w.heap.size ≤ k ∧ G w w' ∧ RLim w' k (reS tat) (reT tat) (reL tat now) T U := by
  obtain ⟨hv, hn, hc⟩ := restE_ok h
  unfold reS reT reL
  rcases hc with rfl | ⟨h1, h2⟩
  · rw [if_pos rfl, if_pos rfl, if_pos rfl]; exact rrestore_new T U (-1) now hv hn rfl w
  · rw [if_neg h1, if_neg h1, if_neg h1]; exact rrestore_yes T U tat now hv hn h1 h2 w
end Go.Proofs.Ytgookddningjpaa
