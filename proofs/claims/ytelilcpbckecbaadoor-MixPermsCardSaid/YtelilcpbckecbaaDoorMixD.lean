/-
  Contracts of package mix, further ones: At, New, Next, Skip, Copy, back, Unmix.
-/
import Derived.Test.YtelilcpbckecbaaDoorMixC
set_option linter.unusedVariables false
set_option linter.unusedSimpArgs false
namespace Go.Proofs.YtelilcpbckecbaaDoor
open Go.RowKit Go.Lib

/-- the number with an index in the sequence of a seed -/
def atI (s n : Int) : Int := mixI (IntKind.u64.wrap (s + IntKind.u64.wrap (IntKind.u64.wrap (n + 1) * 11400714819323198485)))
theorem u64_bd (x : Int) : 0 ≤ IntKind.u64.wrap x ∧ IntKind.u64.wrap x < 18446744073709551616 := by rw [IntKind.wrap_u64]; omega
theorem atI_bd (s n : Int) : 0 ≤ atI s n ∧ atI s n < 18446744073709551616 := mixI_bd _

set_option maxHeartbeats 400000 in
theorem at_any (s n : Int) (hs0 : 0 ≤ s) (hs : s < 18446744073709551616) (hn0 : 0 ≤ n) (hn : n < 18446744073709551616) (w : World) (ht : Tab w) :
    Calls Tryd.prog 19 #[.int .u64 s, .int .u64 n] w fun e w' => e = .returned (.int .u64 (atI s n)) ∧ G w w' := by
  go_enter Tryd.func19, Tryd.ntmps19
  go_wp2_with fail
  refine (mix_any _ (u64_bd _).1 (u64_bd _).2 _ ht).mono ?_
  rintro e w1 ⟨rfl, g1⟩
  go_wp2_with fail
  go_ret
  exact ⟨rfl, g1⟩

set_option maxHeartbeats 400000 in
theorem new_any (s : Int) (w : World) :
    Calls Tryd.prog 20 #[.int .u64 s] w fun e w' => e = .returned (.pointer (some ⟨w.heap.size, 0, none⟩)) ∧ w' = w.alloc (.cells #[.bool true, .int .u64 s] 49) := by
  go_enter Tryd.func20, Tryd.ntmps20
  go_wp2_with fail
  go_ret
  exact ⟨rfl, rfl⟩
set_option maxHeartbeats 400000 in
theorem next_any (k : Nat) (a : Int) (w : World) (ht : Tab w) (hk : 0 < k) (hb : Blk w k 49 #[.bool true, .int .u64 a]) :
    Calls Tryd.prog 22 #[.pointer (some ⟨k, 0, none⟩)] w fun e w' => e = .returned (.int .u64 (mixI (IntKind.u64.wrap (a + 11400714819323198485)))) ∧ w.grownBy w' (some k) ∧ Blk w' k 49 #[.bool true, .int .u64 (IntKind.u64.wrap (a + 11400714819323198485))] := by
  have c0 : w.cell? ⟨k, 0, none⟩ = some (.bool true) := hb.cell 0
  have c1 : w.cell? ⟨k, 1, none⟩ = some (.int .u64 a) := hb.cell 1
  have f1 := hb.frozen 1
  go_enter Tryd.func22, Tryd.ntmps22
  go_wp2_with fail
  have hg := grown_setCell (grown_of_G (G.refl w) (some k)) 1 (.int .u64 (IntKind.u64.wrap (a + 11400714819323198485)))
  have hb2 := hb.set_ 1 (.int .u64 (IntKind.u64.wrap (a + 11400714819323198485)))
  refine (mix_any _ (u64_bd _).1 (u64_bd _).2 _ (ht.grown hg hk)).mono ?_
  rintro e w1 ⟨rfl, g1⟩
  go_wp2_with fail
  go_ret
  exact ⟨rfl, grown_trans hg (grown_of_G g1 _), hb2.g g1⟩
set_option maxHeartbeats 400000 in
theorem next_nil (w : World) :
    Calls Tryd.prog 22 #[.pointer none] w fun e w' => e = .returned (.int .u64 0) ∧ w = w' := by
  go_enter Tryd.func22, Tryd.ntmps22
  go_wp2_with fail
  go_ret
  exact ⟨rfl, rfl⟩
set_option maxHeartbeats 400000 in
theorem next_raw (k : Nat) (v : Value) (w : World) (hb : Blk w k 49 #[.bool false, v]) :
    Calls Tryd.prog 22 #[.pointer (some ⟨k, 0, none⟩)] w fun e w' => e = .returned (.int .u64 0) ∧ w = w' := by
  have c0 : w.cell? ⟨k, 0, none⟩ = some (.bool false) := hb.cell 0
  go_enter Tryd.func22, Tryd.ntmps22
  go_wp2_with fail
  go_ret
  exact ⟨rfl, rfl⟩
set_option maxHeartbeats 400000 in
theorem skip_any (k : Nat) (a n : Int) (w : World) (hb : Blk w k 49 #[.bool true, .int .u64 a]) :
    Calls Tryd.prog 21 #[.pointer (some ⟨k, 0, none⟩), .int .u64 n] w fun e w' => e = .returned (.tuple #[]) ∧ w.grownBy w' (some k) ∧ Blk w' k 49 #[.bool true, .int .u64 (IntKind.u64.wrap (a + IntKind.u64.wrap (n * 11400714819323198485)))] := by
  have c0 : w.cell? ⟨k, 0, none⟩ = some (.bool true) := hb.cell 0
  have c1 : w.cell? ⟨k, 1, none⟩ = some (.int .u64 a) := hb.cell 1
  have f1 := hb.frozen 1
  go_enter Tryd.func21, Tryd.ntmps21
  go_wp2_with fail
  have hg := grown_setCell (grown_of_G (G.refl w) (some k)) 1 (.int .u64 (IntKind.u64.wrap (a + IntKind.u64.wrap (n * 11400714819323198485))))
  have hb2 := hb.set_ 1 (.int .u64 (IntKind.u64.wrap (a + IntKind.u64.wrap (n * 11400714819323198485))))
  go_end0
  exact ⟨rfl, hg, hb2⟩
set_option maxHeartbeats 400000 in
theorem skip_nil (n : Int) (w : World) :
    Calls Tryd.prog 21 #[.pointer none, .int .u64 n] w fun e w' => e = .returned (.tuple #[]) ∧ w = w' := by
  go_enter Tryd.func21, Tryd.ntmps21
  go_wp2_with fail
  go_end0
  exact ⟨rfl, rfl⟩
set_option maxHeartbeats 400000 in
theorem skip_raw (k : Nat) (v : Value) (n : Int) (w : World) (hb : Blk w k 49 #[.bool false, v]) :
    Calls Tryd.prog 21 #[.pointer (some ⟨k, 0, none⟩), .int .u64 n] w fun e w' => e = .returned (.tuple #[]) ∧ w = w' := by
  have c0 : w.cell? ⟨k, 0, none⟩ = some (.bool false) := hb.cell 0
  go_enter Tryd.func21, Tryd.ntmps21
  go_wp2_with fail
  go_end0
  exact ⟨rfl, rfl⟩
set_option maxHeartbeats 400000 in
theorem copy_any (k : Nat) (a : Int) (w : World) (hb : Blk w k 49 #[.bool true, .int .u64 a]) :
    Calls Tryd.prog 24 #[.pointer (some ⟨k, 0, none⟩)] w fun e w' => e = .returned (.pointer (some ⟨w.heap.size, 0, none⟩)) ∧ w' = w.alloc (.cells #[.bool true, .int .u64 a] 49) := by
  have c0 : w.cell? ⟨k, 0, none⟩ = some (.bool true) := hb.cell 0
  have c1 : w.cell? ⟨k, 1, none⟩ = some (.int .u64 a) := hb.cell 1
  go_enter Tryd.func24, Tryd.ntmps24
  go_wp2_with fail
  go_ret
  exact ⟨rfl, rfl⟩
set_option maxHeartbeats 400000 in
theorem copy_nil (w : World) :
    Calls Tryd.prog 24 #[.pointer none] w fun e w' => e = .returned (.pointer none) ∧ w = w' := by
  go_enter Tryd.func24, Tryd.ntmps24
  go_wp2_with fail
  go_ret
  exact ⟨rfl, rfl⟩
set_option maxHeartbeats 400000 in
theorem copy_raw (k : Nat) (v : Value) (w : World) (hb : Blk w k 49 #[.bool false, v]) :
    Calls Tryd.prog 24 #[.pointer (some ⟨k, 0, none⟩)] w fun e w' => e = .returned (.pointer none) ∧ w = w' := by
  have c0 : w.cell? ⟨k, 0, none⟩ = some (.bool false) := hb.cell 0
  go_enter Tryd.func24, Tryd.ntmps24
  go_wp2_with fail
  go_ret
  exact ⟨rfl, rfl⟩
end Go.Proofs.YtelilcpbckecbaaDoor
