/-
  The examples of the chapter hold: works returns true.
-/
import Derived.Test.YtelilcpbckecbaaDoorPermC
set_option linter.unusedVariables false
set_option linter.unusedSimpArgs false
namespace Go.Proofs.YtelilcpbckecbaaDoor
open Go.RowKit

theorem k1 : hiI 9223372036854775808 10 = 5 := by decide +kernel
theorem k2 : atI 0 0 = 16294208416658607535 := by decide +kernel
theorem k3 : atI 0 2 = 487617019471545679 := by decide +kernel
theorem k4 : mixI (IntKind.u64.wrap (1234567 + 11400714819323198485)) = 6457827717110365317 := by decide +kernel
theorem k5 : mixI (IntKind.u64.wrap (IntKind.u64.wrap (1234567 + 11400714819323198485) + 11400714819323198485)) = 3203168211198807973 := by decide +kernel
theorem k6 (s : Int) : vI .i64 (permTo s 1 0) = vI .i64 [0] := rfl

set_option maxHeartbeats 1000000 in
theorem works_any (w : World) (ht : Tab w) :
    Calls Tryd.prog 16 #[] w fun e w' => e = .returned (.bool true) ∧ G w w' := by
  go_enter Tryd.func16, Tryd.ntmps16
  go_wp2_with fail
  refine (below_any 9223372036854775808 10 (by decide) (by decide) (by decide) (by decide) _).mono ?_
  rintro e w1 ⟨rfl, rfl⟩
  rw [k1]
  go_wp2_with fail
  refine (perm_any 7 1 (by decide) (by decide) (by decide) _ ht).mono ?_
  rintro e w2 ⟨rfl, hg2, hb2⟩
  go_wp2_with fail
  refine (new_any _ _).mono ?_
  rintro e w3 ⟨rfl, rfl⟩
  have hS := Blk.new w2 49 #[.bool true, .int .u64 1234567]
  have hlt := hb2.lt
  generalize w2.heap.size = kS at hS hlt ⊢
  go_wp2_with fail
  refine (at_any 0 0 (by decide) (by decide) (by decide) (by decide) _ (ht.g (by repeat (first | exact G.refl _ | refine G.alloc ?_ _ | refine G.drewN ?_ _ | refine G.drew ?_ | refine G.trans ?_ (by assumption))))).mono ?_
  rintro e w4 ⟨rfl, hg4⟩
  rw [k2]
  go_wp2_with fail
  refine (at_any 0 2 (by decide) (by decide) (by decide) (by decide) _ (ht.g (by repeat (first | exact G.refl _ | refine G.alloc ?_ _ | refine G.drewN ?_ _ | refine G.drew ?_ | refine G.trans ?_ (by assumption))))).mono ?_
  rintro e w5 ⟨rfl, hg5⟩
  rw [k3]
  go_wp2_with fail
  have hE := Blk.new w5 3 #[.int .i64 0]
  have hG5 : G w2 (w5.alloc (Obj.cells #[.int .i64 0] 3)) := (by repeat (first | exact G.refl _ | refine G.alloc ?_ _ | refine G.drewN ?_ _ | refine G.drew ?_ | refine G.trans ?_ (by assumption)))
  refine (equal_int [0] _ _ _ (Rd.ints (l := [0]) (hb2.g hG5) (by simp)) (Rd.ints (l := [0]) hE (by simp))).mono ?_
  rintro e w6 ⟨rfl, hg6⟩
  go_wp2_with fail
  have hz := ht.1
  have hS6 : Blk w6 kS 49 #[.bool true, .int .u64 1234567] := hS.g (by repeat (first | exact G.refl _ | refine G.alloc ?_ _ | refine G.drewN ?_ _ | refine G.drew ?_ | refine G.trans ?_ (by assumption)))
  have hG6 : G w w6 := (by repeat (first | exact G.refl _ | refine G.alloc ?_ _ | refine G.drewN ?_ _ | refine G.drew ?_ | refine G.trans ?_ (by assumption)))
  refine (next_any kS _ _ (ht.g hG6) (by omega) hS6).mono ?_
  rintro e w7 ⟨rfl, hg7, hS7⟩
  rw [k4]
  have hG7 : G w w7 := hG6.own hg7 (by omega)
  go_wp2_with fail
  refine (next_any kS _ _ (ht.g hG7) (by omega) hS7).mono ?_
  rintro e w8 ⟨rfl, hg8, hS8⟩
  rw [k5]
  have hG8 : G w w8 := hG7.own hg8 (by omega)
  go_wp2_with fail
  go_ret
  exact ⟨rfl, hG8⟩
end Go.Proofs.YtelilcpbckecbaaDoor
