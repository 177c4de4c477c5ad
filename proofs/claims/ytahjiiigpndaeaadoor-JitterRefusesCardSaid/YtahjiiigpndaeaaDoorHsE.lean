/-
  Package hash and the document's side: Key; names.
-/
import Derived.Test.YtahjiiigpndaeaaDoorHsD
set_option linter.unusedVariables false
set_option linter.unusedSimpArgs false
namespace Go.Proofs.YtahjiiigpndaeaaDoor
open Go.RowKit

/-- the key of an attempt -/
def keyI (a : Int) (s : ByteArray) (d t : Int) : Int := hN (hN (hN (sumS s) (wrap64 a)) d) t
theorem keyI_bd (a : Int) (s : ByteArray) (d t : Int) : u64 (keyI a s d t) := hN_bd (hN_bd (hN_bd (sumS_bd s) _) _) _
set_option maxHeartbeats 1000000 in
theorem rkey_any (a : Int) (s : ByteArray) (d t : Int) (ha : u64 a) (hsz : s.size < 9223372036854775807) (d0 : -9223372036854775808 ≤ d) (d1 : d ≤ 9223372036854775807) (t0 : -9223372036854775808 ≤ t) (t1 : t ≤ 9223372036854775807) (w : World) :
    Calls Tryd.prog 56 #[.int .u64 a, .string s, .int .i64 d, .int .i64 t] w fun e w' => e = .returned (.int .u64 (keyI a s d t)) ∧ G w w' := by
  have hw : -9223372036854775808 ≤ wrap64 a ∧ wrap64 a ≤ 9223372036854775807 := by unfold wrap64; omega
  go_enter Tryd.func56, Tryd.ntmps56
  go_wp2_with fail
  go_at_call 61
  refine (rsum_any s hsz _).mono ?_
  rintro e w1 ⟨rfl, g1⟩
  go_wp2_with fail
  go_at_call 60
  refine (rnumber_any _ _ (sumS_bd s) hw.1 hw.2 _).mono ?_
  rintro e w2 ⟨rfl, g2⟩
  go_wp2_with fail
  go_at_call 60
  refine (rnumber_any _ _ (hN_bd (sumS_bd s) _) d0 d1 _).mono ?_
  rintro e w3 ⟨rfl, g3⟩
  go_wp2_with fail
  go_at_call 60
  refine (rnumber_any _ _ (hN_bd (hN_bd (sumS_bd s) _) _) t0 t1 _).mono ?_
  rintro e w4 ⟨rfl, g4⟩
  go_wp2_with fail
  go_ret
  exact ⟨rfl, ((g1.trans g2).trans g3).trans g4⟩
set_option maxHeartbeats 1000000 in
theorem key_any (a : Int) (s : ByteArray) (d t : Int) (ha : u64 a) (hsz : s.size < 9223372036854775807) (d0 : -9223372036854775808 ≤ d) (d1 : d ≤ 9223372036854775807) (t0 : -9223372036854775808 ≤ t) (t1 : t ≤ 9223372036854775807) (w : World) :
    Calls Tryd.prog 27 #[.int .u64 a, .string s, .int .i64 d, .int .i64 t] w fun e w' => e = .returned (.int .u64 (keyI a s d t)) ∧ G w w' := by
  have hw : -9223372036854775808 ≤ wrap64 a ∧ wrap64 a ≤ 9223372036854775807 := by unfold wrap64; omega
  have i0 : ∀ w, (Instr.index 85 (.agg #[.int .i64 (wrap64 a), .int .i64 d, .int .i64 t]) (.int .i64 0)).run Tryd.prog w = .ok (.int .i64 (wrap64 a)) w := fun _ => by kernel_rfl
  have i1 : ∀ w, (Instr.index 85 (.agg #[.int .i64 (wrap64 a), .int .i64 d, .int .i64 t]) (.int .i64 1)).run Tryd.prog w = .ok (.int .i64 d) w := fun _ => by kernel_rfl
  have i2 : ∀ w, (Instr.index 85 (.agg #[.int .i64 (wrap64 a), .int .i64 d, .int .i64 t]) (.int .i64 2)).run Tryd.prog w = .ok (.int .i64 t) w := fun _ => by kernel_rfl
  go_enter Tryd.func27, Tryd.ntmps27
  go_wp2_with fail
  go_at_call 47
  refine (text_any w.heap.size _ s beg_bd hsz _ (Blk.new w _ _)).mono ?_
  rintro e w1 ⟨rfl, g1, hH⟩
  have gW : G w w1 := ((G.refl w).alloc _).own g1 (Nat.le_refl _)
  clear g1
  go_wp2_with fail
  refine wp_loop_rounds 4 ?_
  rw [rounds_succ]
  go_wp2_with fail
  go_at_call 48
  refine (number_any w.heap.size _ _ (sumS_bd s) hw.1 hw.2 _ hH).mono ?_
  rintro e w2 ⟨rfl, g2, hH2⟩
  have gW2 := gW.own g2 (Nat.le_refl _)
  clear g2 gW hH
  go_wp2_with fail
  rw [rounds_succ]
  go_wp2_with fail
  go_at_call 48
  refine (number_any w.heap.size _ _ (hN_bd (sumS_bd s) _) d0 d1 _ hH2).mono ?_
  rintro e w3 ⟨rfl, g3, hH3⟩
  have gW3 := gW2.own g3 (Nat.le_refl _)
  clear g3 gW2 hH2
  go_wp2_with fail
  rw [rounds_succ]
  go_wp2_with fail
  go_at_call 48
  refine (number_any w.heap.size _ _ (hN_bd (hN_bd (sumS_bd s) _) _) t0 t1 _ hH3).mono ?_
  rintro e w4 ⟨rfl, g4, hH4⟩
  have gW4 := gW3.own g4 (Nat.le_refl _)
  clear g4 gW3 hH3
  have c0 : w4.cell? ⟨w.heap.size, 0, none⟩ = some (.int .u64 (keyI a s d t)) := Blk.cell hH4 0
  obtain ⟨b0, b1⟩ := keyI_bd a s d t
  go_wp2_with fail
  rw [rounds_succ]
  go_wp2_with fail
  go_ret
  exact ⟨rfl, gW4⟩
end Go.Proofs.YtahjiiigpndaeaaDoor
