/-
  Part 29: the names that the laws make of numbers.
-/
import Derived.Test.YtahjiiigpndaeaaDoorJtX
set_option linter.unusedVariables false
set_option linter.unusedSimpArgs false
namespace Go.Proofs.YtahjiiigpndaeaaDoor
open Go.RowKit Go.Shelf

/-- the name that the laws make of a number -/
def nmJ (n : Int) : ByteArray := ⟨#[106, 111, 98, 45]⟩ ++ strOfNums [97 + n % 26, 97 + n / 26 % 26]
theorem bs_append (s t : ByteArray) : bs (s ++ t) = bs s ++ bs t := by
  unfold bs
  simp [ByteArray.data_append]
theorem nmJ_size (n : Int) : (nmJ n).size = 6 := by
  unfold nmJ
  rw [ByteArray.size_append, str_size]
  rfl
theorem nmJ_ok (n : Int) : nmB (nmJ n) = true := by
  unfold nmB
  rw [nmJ_size]
  have hb := bs_str [97 + n % 26, 97 + n / 26 % 26] (by
    intro x hx
    simp at hx
    omega)
  have h0 : nmc (97 + n % 26) = true := by unfold nmc; exact decide_eq_true (.inl (.inl (by omega)))
  have h1 : nmc (97 + n / 26 % 26) = true := by unfold nmc; exact decide_eq_true (.inl (.inl (by omega)))
  unfold nmJ nmAll
  rw [bs_append, hb, List.all_append]
  rw [show (bs ⟨#[106, 111, 98, 45]⟩).all nmc = true by decide +kernel]
  simp [h0, h1]
set_option maxRecDepth 20000 in
set_option maxHeartbeats 1000000 in
theorem named_any (n : Int) (n0 : 0 ≤ n) (n1 : n ≤ 65535) (w : World) :
    Calls Tryd.prog 24 #[.int .u16 n] w fun e w' => e = .returned (.string (nmJ n)) ∧ G w w' := by
  have HJ : Hid (∀ p, n / 26 = p → (⟨#[106, 111, 98, 45]⟩ ++ strOfNums [97 + n % 26, 97 + p % 26] : ByteArray) = nmJ n) := Lib.hid (fun p h => by subst h; rfl)
  obtain ⟨p, hp⟩ : ∃ p, n / 26 = p := ⟨_, rfl⟩
  replace HJ := Lib.hid (HJ.out p hp)
  have hq : IntKind.u16.wrap (n.tdiv 26) = p := by
    rw [Int.tdiv_eq_ediv_of_nonneg n0, hp, IntKind.wrap_u16]
    omega
  have p0 : 0 ≤ p := by omega
  have p1 : p ≤ 2520 := by omega
  generalize nmJ n = X at *
  clear hp
  have hcv := run_convert_bytes_arg (P := Tryd.prog) (w.alloc (.cells #[.int .u8 (97 + n % 26), .int .u8 (97 + p % 26)] 5)) 60 5 Tryd.underlying60 Tryd.underlying5 w.heap.size 0 2 2 [97 + n % 26, 97 + p % 26] rfl (fun j hj => by
    rw [(Blk.new w _ _).cell]
    match j, hj with
    | 0, _ => rfl
    | 1, _ => rfl) 9 Tryd.underlying9
  have hss := str_size [97 + n % 26, 97 + p % 26]
  go_enter Tryd.func24, Tryd.ntmps24
  go_wp2_with fail
  go_ret
  exact ⟨by rw [← HJ.out]; rfl, (by repeat (first | exact G.refl _ | refine G.alloc ?_ _ | refine G.drewN ?_ _ | refine G.drew ?_ | refine G.trans ?_ (by assumption)))⟩
end Go.Proofs.YtahjiiigpndaeaaDoor
