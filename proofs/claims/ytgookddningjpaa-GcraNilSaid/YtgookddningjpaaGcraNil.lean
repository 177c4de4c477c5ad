/-
  GcraNil: limiters that are nil, or were not returned by New, are as the document says.
-/
import Derived.Test.YtgookddningjpaaTieP
import Derived.Test.YtgookddningjpaaGcN
set_option linter.unusedVariables false
set_option linter.unusedSimpArgs false
namespace Go.Proofs.Ytgookddningjpaa.lawGcraNil
open Go.ChangeShapes Go.WideShapes Go.ChangeAt Go.RowKit

set_option maxRecDepth 4000 in
set_option maxHeartbeats 8000000 in
theorem walk {w : World} (now : Int) (o0 : -9223372036854775808 ≤ now) (o1 : now ≤ 9223372036854775807) :
    Calls Try.prog 12 #[.int .i64 now] w fun e w' => e = .returned (.bool true) ∧ G w w' := by
  go_enter Try.func12, Try.ntmps12
  go_wp2_with fail
  have hZ := Blk.new w 60 #[.bool false, .int .i64 0, .int .i64 0, .int .i64 0, .int .i64 0, .bool false]
  have gZ : G w ((w.alloc (.cells #[.bool false, .int .i64 0, .int .i64 0, .int .i64 0, .int .i64 0, .bool false] 60)).alloc (.cells #[.pointer none, .pointer (some ⟨w.heap.size, 0, none⟩)] 33)) := (by repeat (first | exact G.refl _ | refine G.alloc ?_ _ | refine G.drewN ?_ _ | refine G.drew ?_ | refine G.trans ?_ (by assumption)))
  have hZ2 := hZ.alloc (.cells #[.pointer none, .pointer (some ⟨w.heap.size, 0, none⟩)] 33)
  have hA := Blk.new (w.alloc (.cells #[.bool false, .int .i64 0, .int .i64 0, .int .i64 0, .int .i64 0, .bool false] 60)) 33 #[.pointer none, .pointer (some ⟨w.heap.size, 0, none⟩)]
  rw [World.size_alloc] at hA
  clear hZ
  generalize (w.alloc (.cells #[.bool false, .int .i64 0, .int .i64 0, .int .i64 0, .int .i64 0, .bool false] 60)).alloc (.cells #[.pointer none, .pointer (some ⟨w.heap.size, 0, none⟩)] 33) = w0 at *
  generalize w.heap.size + 1 = kA at *
  generalize w.heap.size = kZ at *
  go_loopw [15] (fun iv wr => ∃ k : Nat, k ≤ 2 ∧ iv = .int .i64 k ∧ G w wr ∧ RawL wr kZ ∧ Blk wr kA 33 #[.pointer none, .pointer (some ⟨kZ, 0, none⟩)]) (fun iv _ => 2 - (intOf iv).toNat)
  case atStart => exact ⟨0, by omega, rfl, gZ, hZ2, hA⟩
  case round =>
    clear gZ hZ2 hA
    obtain ⟨k, hk, rfl, gq, hZq, hAq⟩ := hrel
    by_cases hlt : k < 2
    · obtain ⟨p, hp, d0⟩ : ∃ p : Option Addr, NilOr wr p ∧ wr.cell? ⟨kA, k, none⟩ = some (.pointer p) := by
        rcases (show k = 0 ∨ k = 1 by omega) with rfl | rfl
        · exact ⟨none, .inl rfl, hAq.cell 0⟩
        · exact ⟨some ⟨kZ, 0, none⟩, .inr ⟨kZ, rfl, hZq⟩, hAq.cell 1⟩
      have hki : (k : Int) < 2 := by omega
      go_wp2_with fail
      refine (ntat p _ hp).mono ?_
      rintro e w1 ⟨rfl, g1⟩
      go_wp2_with fail
      refine (nnext p now _ (hp.g g1)).mono ?_
      rintro e w2 ⟨rfl, g2⟩
      have g12 := g1.trans g2
      clear g1 g2
      go_wp2_with fail
      refine (ntake p now _ (hp.g g12)).mono ?_
      rintro e w3 ⟨rfl, g3⟩
      have g13 := g12.trans g3
      clear g12 g3
      go_wp2_with fail
      refine (nallows p now _ (hp.g g13)).mono ?_
      rintro e w4 ⟨rfl, g4⟩
      have g14 := g13.trans g4
      clear g13 g4
      go_wp2_with fail
      refine (nlimit p _ (hp.g g14)).mono ?_
      rintro e w5 ⟨rfl, g5⟩
      have g15 := g14.trans g5
      clear g14 g5
      go_wp2_with fail
      refine (ncopy p _ (hp.g g15)).mono ?_
      rintro e w6 ⟨rfl, g6⟩
      have g16 := g15.trans g6
      clear g15 g6
      go_wp2_with fail
      go_roundw
      case rel => exact ⟨k + 1, by omega, by go_num, gq.trans g16, hZq.g g16, hAq.g g16⟩
      case measure => simp [intOf]; omega
    · obtain rfl : k = 2 := by omega
      go_wp2_with fail
      refine (works_any _).mono ?_
      rintro e w6 ⟨rfl, g6⟩
      go_wp2_with fail
      go_ret
      exact ⟨rfl, gq.trans g6⟩
set_option maxHeartbeats 2000000 in
theorem contract (H : Type) (enc : TypeId × Value → H) (W : World) (base : Nat) (args : Array Value) (ds gs : List (DataW H)) (before : List MemPlace)
    (hval : ∀ (j : Nat) t v, Try.f12.params[j]? = some t → args[j]? = some v → Value.okWide Try.prog W .any base t v)
    (hW : DataW.Whole enc Try.prog Try.f12.params.toList Rows.gcraNilSpec.vars false W args.toList ds gs before) :
    Calls Try.prog 12 args W fun e W' => ∃ v, e = .returned v ∧ Rows.gcraNilSpec.post enc Try.prog Try.f12 false true false false W args v W' := by
  have hW' := hW
  obtain ⟨p, q, hA0, hV, rfl, hfz, hnd⟩ := hW
  have hA : DataW.TrodAll enc Try.prog W 0 (fun _ => true) true Try.f12.params.toList args.toList ds p := hA0
  rw [Try.params12] at hA hval
  obtain ⟨v0, vs0, d0, ds0, p0, q0, hargs, rfl, rfl, h0, r0⟩ := trodAll_cons hA
  obtain ⟨rfl, rfl, rfl⟩ := trodAll_nil r0
  obtain rfl : args = #[v0] := by cases args; simp_all
  obtain ⟨a0, rfl, rfl, rfl, w0⟩ := open_int Try.underlying2 (hval 0 2 v0 rfl rfl) h0
  simp [Lit.wf, IntKind.min, IntKind.max, IntKind.bits, IntKind.signed] at w0
  refine (walk (w := W) a0 (by omega) (by omega)).mono fun e W' ⟨he, hg⟩ => ?_
  subst he
  exact ⟨_, rfl, law_post laidOut_ (by intro t ht; rw [Try.params12] at ht; simp at ht; rcases ht with rfl <;> exact ⟨by kernel_rfl, by decide +kernel⟩) hW' rfl rfl (by kernel_rfl) Try.underlying4 hg⟩
set_option maxRecDepth 100000 in
theorem lifted (os : Os) (started : os.Started) (H : Type) (enc : TypeId × Value → H) :
    ReturnsInHanded {} Try.checked os 12 .any (Rows.gcraNilSpec.pre6 enc Try.prog Try.f12 Rows.gcraNilRow.domain false) (Rows.gcraNilSpec.post enc Try.prog Try.f12 false true false false) := by
  refine returnsInHanded_of_change (C := Try.checked) own_ started (by kernel_rfl) Try.func12
    (ChangeSpec.witness6 (enc := enc) (C := Try.checked) false ⟨#[], #[.int .i64 0], []⟩ 8 (by kernel_rfl) (by kernel_rfl) (by kernel_rfl) (by kernel_rfl)) ?_
  intro W base args ds gs before hval hW _ _
  exact contract H enc W base args ds gs before hval hW
theorem said : Rows.GcraNilSaid :=
  OpenClaim.holds_of_wide 12 Try.f12 rfl rfl rfl rfl rfl rfl rfl ⟨rfl, rfl, rfl, rfl, rfl⟩ rfl rfl rfl rfl rfl (by kernel_rfl) Try.func12 (by kernel_rfl)
    (of_decide_eq_true (by kernel_rfl)) (by unfold Func.isWrapper; first | (rw [if_pos (by decide +kernel)]; kernel_rfl) | (rw [if_neg (by decide +kernel)]; exact ⟨rfl, rfl⟩))
    (fun os started H enc _ => lifted os started H enc)
#print axioms said
end Go.Proofs.Ytgookddningjpaa.lawGcraNil
