/-
  A limiter of the program and one of the document in the same state: agree; what Take makes of the state.
-/
import Derived.Test.YtgookddningjpaaRefI
set_option linter.unusedVariables false
set_option linter.unusedSimpArgs false
namespace Go.Proofs.Ytgookddningjpaa
open Go.RowKit

/-- the state of a limiter: its numbers are in their bounds -/
def Fine (som : Bool) (tat last T U : Int) : Prop := Okl tat last T U ∧ (som = false → tat = 0) ∧ (T = 0 → tat ≤ 253402300799)
theorem Fine.new {T U : Int} (h : validL T U) : Fine false 0 0 T U := ⟨⟨h.1, h.2.1, ⟨by omega, by omega⟩, by omega, by omega⟩, fun _ => rfl, fun _ => by omega⟩
theorem Fine.tk {som : Bool} {tat last T U : Int} (h : Fine som tat last T U) (now : Int) : Fine (tkS som tat last T U now) (tkT som tat last T U now) (tkL som tat last T U now) T U := by
  unfold tkS tkT tkL
  by_cases hc : checkE som tat last T U now = 0
  · rw [if_pos hc, if_pos hc, if_pos hc]
    obtain ⟨a, b⟩ := okl_take h.1 hc h.2.1 h.2.2
    exact ⟨a, (fun h => by cases h), b⟩
  · rw [if_neg hc, if_neg hc, if_neg hc]; exact h

set_option maxRecDepth 4000 in
set_option maxHeartbeats 3200000 in
theorem agree_any (k kR : Nat) (som : Bool) (tat last T U now : Int) (hf : Fine som tat last T U) (w : World) (hb : Lim w k som tat last T U) (hr : RLim w kR som tat last T U) :
    Calls Try.prog 31 #[.pointer (some ⟨k, 0, none⟩), .pointer (some ⟨kR, 0, none⟩), .int .i64 now] w fun e w' => e = .returned (.bool true) ∧ G w w' := by
  have HO := Lib.hid hf.1
  have HS := Lib.hid hf.2.1
  clear hf
  by_cases hn : isT now
  · have HN := Lib.hid hn
    clear hn
    go_enter Try.func31, Try.ntmps31
    go_wp2_with fail
    refine (tat_any k _ _ _ _ _ _ hb).mono ?_
    rintro e w1 ⟨rfl, g1⟩
    go_wp2_with fail
    refine (rtat_any kR _ _ _ _ _ HS.out _ (hr.g g1)).mono ?_
    rintro e w2 ⟨rfl, g2⟩
    have gW2 := g1.trans g2
    clear g1 g2
    go_wp2_with fail
    refine (next_any k _ _ _ _ _ _ HO.out HN.out _ (hb.g gW2)).mono ?_
    rintro e w3 ⟨rfl, g3⟩
    have gW3 := gW2.trans g3
    clear gW2 g3
    go_wp2_with fail
    refine (rnext_any kR _ _ _ _ _ _ HO.out HN.out _ (hr.g gW3)).mono ?_
    rintro e w4 ⟨rfl, g4⟩
    have gW4 := gW3.trans g4
    clear gW3 g4
    generalize nextI som tat last T U now = N at *
    go_wp2_with fail
    refine (allows_any k _ _ _ _ _ _ HO.out _ (hb.g gW4)).mono ?_
    rintro e w5 ⟨rfl, g5⟩
    have gW5 := gW4.trans g5
    clear gW4 g5
    go_wp2_with fail
    refine (rallows_any kR _ _ _ _ _ _ HO.out _ (hr.g gW5)).mono ?_
    rintro e w6 ⟨rfl, g6⟩
    have gW6 := gW5.trans g6
    clear gW5 g6
    generalize (checkE som tat last T U now == 0) = bb at *
    go_wp2_with fail
    refine (limit_any k _ _ _ _ _ _ (hb.g gW6)).mono ?_
    rintro e w7 ⟨rfl, g7⟩
    have gW7 := gW6.trans g7
    clear gW6 g7
    go_wp2_with fail
    refine (rlimit_any kR _ _ _ _ _ _ (hr.g gW7)).mono ?_
    rintro e w8 ⟨rfl, g8⟩
    go_wp2_with fail
    go_ret
    exact ⟨rfl, gW7.trans g8⟩
  · have HN := Lib.hid hn
    clear hn
    go_enter Try.func31, Try.ntmps31
    go_wp2_with fail
    refine (tat_any k _ _ _ _ _ _ hb).mono ?_
    rintro e w1 ⟨rfl, g1⟩
    go_wp2_with fail
    refine (rtat_any kR _ _ _ _ _ HS.out _ (hr.g g1)).mono ?_
    rintro e w2 ⟨rfl, g2⟩
    have gW2 := g1.trans g2
    clear g1 g2
    go_wp2_with fail
    refine (next_no k _ _ _ _ _ _ HN.out _ (hb.g gW2)).mono ?_
    rintro e w3 ⟨rfl, g3⟩
    have gW3 := gW2.trans g3
    clear gW2 g3
    go_wp2_with fail
    refine (rnext_no kR _ _ _ _ _ _ HN.out _ (hr.g gW3)).mono ?_
    rintro e w4 ⟨rfl, g4⟩
    have gW4 := gW3.trans g4
    clear gW3 g4
    go_wp2_with fail
    refine (allows_any k _ _ _ _ _ _ HO.out _ (hb.g gW4)).mono ?_
    rintro e w5 ⟨rfl, g5⟩
    have gW5 := gW4.trans g5
    clear gW4 g5
    go_wp2_with fail
    refine (rallows_any kR _ _ _ _ _ _ HO.out _ (hr.g gW5)).mono ?_
    rintro e w6 ⟨rfl, g6⟩
    have gW6 := gW5.trans g6
    clear gW5 g6
    generalize (checkE som tat last T U now == 0) = bb at *
    go_wp2_with fail
    refine (limit_any k _ _ _ _ _ _ (hb.g gW6)).mono ?_
    rintro e w7 ⟨rfl, g7⟩
    have gW7 := gW6.trans g7
    clear gW6 g7
    go_wp2_with fail
    refine (rlimit_any kR _ _ _ _ _ _ (hr.g gW7)).mono ?_
    rintro e w8 ⟨rfl, g8⟩
    go_wp2_with fail
    go_ret
    exact ⟨rfl, gW7.trans g8⟩
end Go.Proofs.Ytgookddningjpaa
