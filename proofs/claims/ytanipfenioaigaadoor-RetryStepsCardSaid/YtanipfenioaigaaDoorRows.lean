/-
  NARROWER THAN 'FOR EVERY INPUT', by the rows' own cells (each row's printed sentence says how): RetryChains: laid · RetryNexts: laid · RetryBounds: laid · RetryWithin: laid · RetrySteps: laid · RetryLatest: laid · RetryLeft: laid · RetryShifts: laid · RetryErrors: laid.
  DERIVED. THE GIVEN ROWS OF THIS SEAT. 9 by the template 'for every input the law returns true; each argument reads behind the call as it read before'; 0 by the template 'total and deterministic' (their statements: YtanipfenioaigaaDoorTotals.lean).
  GIVEN WITH THE SEED: the statements are not yours to turn. If you find one false, say at which input.
  Laid BY PROGRAM, IN A SANDBOX (cutbox-rows.mjs): the forced cells as the released guide's own fill.sh prints them over the translation 7c90a19b72b0ddd1… (all of the seat's roots in one cut). By AI agents, Wed Nov 11 2026. No macro, syntax, notation, axiom, sorry.
-/
import Derived.Test.YtanipfenioaigaaDoorChecked
import GoSem.Claim
import GoSem.ClaimJoined
import GoSem.ClaimMapViews
import Derived.JoinedTies
import Derived.KernelRfl
namespace Go.Proofs.YtanipfenioaigaaDoor
/- THE CELL 'sum', in the pinned program and in every row, IS THE sha256 OF THE DUMP (.gsa) THAT YtanipfenioaigaaDoorProg.lean LOADS. Nothing in Lean hashes anything: it is a label: what it is worth is what the hold of that sum in a sandbox is worth. -/
noncomputable def Tryd.pinned : Pinned := { name := "ytanipfenioaigaadoor", sum := "7c90a19b72b0ddd1f488d3b0e558024fb8034ebee9b774f3839074b7d7d39337", checked := Tryd.checked }
namespace Rows
def none {H : Type} : Left H := { results := [], args := [] }

/- WHAT THE LISTED PACKAGE-LEVEL VARIABLES READ AS WHEN THE CALL BEGINS. Each datum BY PROGRAM (the guide's laid-datum.mjs) off the statement by which the dump's own 'gosem.cut.vars' lays the variable. In a bare row this is a premise. The card (YtanipfenioaigaaDoorCards.lean) ties it to the program's text. -/
def laid_wakeman_mix_steps {H : Type} : DataW H := .agg [.agg [.lit (.int .i64 30), .lit (.int .u64 13787848793156543929)], .agg [.lit (.int .i64 27), .lit (.int .u64 10723151780598845931)], .agg [.lit (.int .i64 31), .lit (.int .u64 1)]]

/-- 'wakemanlaw31.RetryChains': WHATEVER THE INPUT: true; the input reads as it did. -/
def retryChainsSpec : ChangeSpec := { name := "retryChains", fn := fun _ => fun
  | [d1, d2] => { results := [.lit (.bool true)], args := [d1, d2] }
  | _ => none }
def retryChainsRow : OpenClaim := { program := "ytanipfenioaigaadoor", sum := "7c90a19b72b0ddd1f488d3b0e558024fb8034ebee9b774f3839074b7d7d39337", func := "wakeman/wakemanlaw31.RetryChains", spec := "retryChains", unfollowed := true, recurses := true, named := ["wakeman/mix.steps"], apart := false, laid := [("wakeman/mix.steps", laid_wakeman_mix_steps)] }
def RetryChainsSaid : Prop := retryChainsRow.holds Tryd.pinned (OpenSpec.ofChange retryChainsSpec)

/-- ITS FALSE NEIGHBOUR: 'it returns false'. Refute it at one input. -/
def retryChainsWrong : ChangeSpec := { name := "retryChains", fn := fun _ => fun
  | [d1, d2] => { results := [.lit (.bool false)], args := [d1, d2] }
  | _ => none }
def RetryChainsWrongFalsely : Prop := retryChainsRow.holds Tryd.pinned (OpenSpec.ofChange retryChainsWrong)

/-- 'wakemanlaw31.RetryNexts': WHATEVER THE INPUT: true; the input reads as it did. -/
def retryNextsSpec : ChangeSpec := { name := "retryNexts", fn := fun _ => fun
  | [d] => { results := [.lit (.bool true)], args := [d] }
  | _ => none }
def retryNextsRow : OpenClaim := { program := "ytanipfenioaigaadoor", sum := "7c90a19b72b0ddd1f488d3b0e558024fb8034ebee9b774f3839074b7d7d39337", func := "wakeman/wakemanlaw31.RetryNexts", spec := "retryNexts", unfollowed := true, recurses := true, named := ["wakeman/mix.steps"], apart := false, laid := [("wakeman/mix.steps", laid_wakeman_mix_steps)] }
def RetryNextsSaid : Prop := retryNextsRow.holds Tryd.pinned (OpenSpec.ofChange retryNextsSpec)

/-- ITS FALSE NEIGHBOUR: 'it returns false'. Refute it at one input. -/
def retryNextsWrong : ChangeSpec := { name := "retryNexts", fn := fun _ => fun
  | [d] => { results := [.lit (.bool false)], args := [d] }
  | _ => none }
def RetryNextsWrongFalsely : Prop := retryNextsRow.holds Tryd.pinned (OpenSpec.ofChange retryNextsWrong)

/-- 'wakemanlaw31.RetryBounds': WHATEVER THE INPUT: true; the input reads as it did. -/
def retryBoundsSpec : ChangeSpec := { name := "retryBounds", fn := fun _ => fun
  | [d1, d2, d3, d4] => { results := [.lit (.bool true)], args := [d1, d2, d3, d4] }
  | _ => none }
def retryBoundsRow : OpenClaim := { program := "ytanipfenioaigaadoor", sum := "7c90a19b72b0ddd1f488d3b0e558024fb8034ebee9b774f3839074b7d7d39337", func := "wakeman/wakemanlaw31.RetryBounds", spec := "retryBounds", unfollowed := true, recurses := true, named := ["wakeman/mix.steps"], apart := false, laid := [("wakeman/mix.steps", laid_wakeman_mix_steps)] }
def RetryBoundsSaid : Prop := retryBoundsRow.holds Tryd.pinned (OpenSpec.ofChange retryBoundsSpec)

/-- ITS FALSE NEIGHBOUR: 'it returns false'. Refute it at one input. -/
def retryBoundsWrong : ChangeSpec := { name := "retryBounds", fn := fun _ => fun
  | [d1, d2, d3, d4] => { results := [.lit (.bool false)], args := [d1, d2, d3, d4] }
  | _ => none }
def RetryBoundsWrongFalsely : Prop := retryBoundsRow.holds Tryd.pinned (OpenSpec.ofChange retryBoundsWrong)

/-- 'wakemanlaw31.RetryWithin': WHATEVER THE INPUT: true; the input reads as it did. -/
def retryWithinSpec : ChangeSpec := { name := "retryWithin", fn := fun _ => fun
  | [d1, d2, d3, d4, d5] => { results := [.lit (.bool true)], args := [d1, d2, d3, d4, d5] }
  | _ => none }
def retryWithinRow : OpenClaim := { program := "ytanipfenioaigaadoor", sum := "7c90a19b72b0ddd1f488d3b0e558024fb8034ebee9b774f3839074b7d7d39337", func := "wakeman/wakemanlaw31.RetryWithin", spec := "retryWithin", unfollowed := true, recurses := true, named := ["wakeman/mix.steps"], apart := false, laid := [("wakeman/mix.steps", laid_wakeman_mix_steps)] }
def RetryWithinSaid : Prop := retryWithinRow.holds Tryd.pinned (OpenSpec.ofChange retryWithinSpec)

/-- ITS FALSE NEIGHBOUR: 'it returns false'. Refute it at one input. -/
def retryWithinWrong : ChangeSpec := { name := "retryWithin", fn := fun _ => fun
  | [d1, d2, d3, d4, d5] => { results := [.lit (.bool false)], args := [d1, d2, d3, d4, d5] }
  | _ => none }
def RetryWithinWrongFalsely : Prop := retryWithinRow.holds Tryd.pinned (OpenSpec.ofChange retryWithinWrong)

/-- 'wakemanlaw31.RetrySteps': WHATEVER THE INPUT: true; the input reads as it did. -/
def retryStepsSpec : ChangeSpec := { name := "retrySteps", fn := fun _ => fun
  | [d1, d2, d3, d4] => { results := [.lit (.bool true)], args := [d1, d2, d3, d4] }
  | _ => none }
def retryStepsRow : OpenClaim := { program := "ytanipfenioaigaadoor", sum := "7c90a19b72b0ddd1f488d3b0e558024fb8034ebee9b774f3839074b7d7d39337", func := "wakeman/wakemanlaw31.RetrySteps", spec := "retrySteps", unfollowed := true, recurses := true, named := ["wakeman/mix.steps"], apart := false, laid := [("wakeman/mix.steps", laid_wakeman_mix_steps)] }
def RetryStepsSaid : Prop := retryStepsRow.holds Tryd.pinned (OpenSpec.ofChange retryStepsSpec)

/-- ITS FALSE NEIGHBOUR: 'it returns false'. Refute it at one input. -/
def retryStepsWrong : ChangeSpec := { name := "retrySteps", fn := fun _ => fun
  | [d1, d2, d3, d4] => { results := [.lit (.bool false)], args := [d1, d2, d3, d4] }
  | _ => none }
def RetryStepsWrongFalsely : Prop := retryStepsRow.holds Tryd.pinned (OpenSpec.ofChange retryStepsWrong)

/-- 'wakemanlaw31.RetryLatest': WHATEVER THE INPUT: true; the input reads as it did. -/
def retryLatestSpec : ChangeSpec := { name := "retryLatest", fn := fun _ => fun
  | [d1, d2, d3, d4, d5, d6] => { results := [.lit (.bool true)], args := [d1, d2, d3, d4, d5, d6] }
  | _ => none }
def retryLatestRow : OpenClaim := { program := "ytanipfenioaigaadoor", sum := "7c90a19b72b0ddd1f488d3b0e558024fb8034ebee9b774f3839074b7d7d39337", func := "wakeman/wakemanlaw31.RetryLatest", spec := "retryLatest", unfollowed := true, recurses := true, named := ["wakeman/mix.steps"], apart := false, laid := [("wakeman/mix.steps", laid_wakeman_mix_steps)] }
def RetryLatestSaid : Prop := retryLatestRow.holds Tryd.pinned (OpenSpec.ofChange retryLatestSpec)

/-- ITS FALSE NEIGHBOUR: 'it returns false'. Refute it at one input. -/
def retryLatestWrong : ChangeSpec := { name := "retryLatest", fn := fun _ => fun
  | [d1, d2, d3, d4, d5, d6] => { results := [.lit (.bool false)], args := [d1, d2, d3, d4, d5, d6] }
  | _ => none }
def RetryLatestWrongFalsely : Prop := retryLatestRow.holds Tryd.pinned (OpenSpec.ofChange retryLatestWrong)

/-- 'wakemanlaw31.RetryLeft': WHATEVER THE INPUT: true; the input reads as it did. -/
def retryLeftSpec : ChangeSpec := { name := "retryLeft", fn := fun _ => fun
  | [d1, d2] => { results := [.lit (.bool true)], args := [d1, d2] }
  | _ => none }
def retryLeftRow : OpenClaim := { program := "ytanipfenioaigaadoor", sum := "7c90a19b72b0ddd1f488d3b0e558024fb8034ebee9b774f3839074b7d7d39337", func := "wakeman/wakemanlaw31.RetryLeft", spec := "retryLeft", unfollowed := true, recurses := true, named := ["wakeman/mix.steps"], apart := false, laid := [("wakeman/mix.steps", laid_wakeman_mix_steps)] }
def RetryLeftSaid : Prop := retryLeftRow.holds Tryd.pinned (OpenSpec.ofChange retryLeftSpec)

/-- ITS FALSE NEIGHBOUR: 'it returns false'. Refute it at one input. -/
def retryLeftWrong : ChangeSpec := { name := "retryLeft", fn := fun _ => fun
  | [d1, d2] => { results := [.lit (.bool false)], args := [d1, d2] }
  | _ => none }
def RetryLeftWrongFalsely : Prop := retryLeftRow.holds Tryd.pinned (OpenSpec.ofChange retryLeftWrong)

/-- 'wakemanlaw31.RetryShifts': WHATEVER THE INPUT: true; the input reads as it did. -/
def retryShiftsSpec : ChangeSpec := { name := "retryShifts", fn := fun _ => fun
  | [d1, d2, d3, d4, d5, d6] => { results := [.lit (.bool true)], args := [d1, d2, d3, d4, d5, d6] }
  | _ => none }
def retryShiftsRow : OpenClaim := { program := "ytanipfenioaigaadoor", sum := "7c90a19b72b0ddd1f488d3b0e558024fb8034ebee9b774f3839074b7d7d39337", func := "wakeman/wakemanlaw31.RetryShifts", spec := "retryShifts", unfollowed := true, recurses := true, named := ["wakeman/mix.steps"], apart := false, laid := [("wakeman/mix.steps", laid_wakeman_mix_steps)] }
def RetryShiftsSaid : Prop := retryShiftsRow.holds Tryd.pinned (OpenSpec.ofChange retryShiftsSpec)

/-- ITS FALSE NEIGHBOUR: 'it returns false'. Refute it at one input. -/
def retryShiftsWrong : ChangeSpec := { name := "retryShifts", fn := fun _ => fun
  | [d1, d2, d3, d4, d5, d6] => { results := [.lit (.bool false)], args := [d1, d2, d3, d4, d5, d6] }
  | _ => none }
def RetryShiftsWrongFalsely : Prop := retryShiftsRow.holds Tryd.pinned (OpenSpec.ofChange retryShiftsWrong)

/-- 'wakemanlaw31.RetryErrors': WHATEVER THE INPUT: true; the input reads as it did. -/
def retryErrorsSpec : ChangeSpec := { name := "retryErrors", fn := fun _ => fun
  | [] => { results := [.lit (.bool true)], args := [] }
  | _ => none }
def retryErrorsRow : OpenClaim := { program := "ytanipfenioaigaadoor", sum := "7c90a19b72b0ddd1f488d3b0e558024fb8034ebee9b774f3839074b7d7d39337", func := "wakeman/wakemanlaw31.RetryErrors", spec := "retryErrors", unfollowed := true, recurses := true, named := ["wakeman/mix.steps"], apart := false, laid := [("wakeman/mix.steps", laid_wakeman_mix_steps)] }
def RetryErrorsSaid : Prop := retryErrorsRow.holds Tryd.pinned (OpenSpec.ofChange retryErrorsSpec)

/-- ITS FALSE NEIGHBOUR: 'it returns false'. Refute it at one input. -/
def retryErrorsWrong : ChangeSpec := { name := "retryErrors", fn := fun _ => fun
  | [] => { results := [.lit (.bool false)], args := [] }
  | _ => none }
def RetryErrorsWrongFalsely : Prop := retryErrorsRow.holds Tryd.pinned (OpenSpec.ofChange retryErrorsWrong)

/- THE SECOND FORM. 'bulk': how many values and letters a reading holds, each counted each time it is reached (what is shared counts as often as it is met; a slice's spare places count too). A statement '..UptoSaid' is the law's where the arguments, and the package variables that the reading takes, are together of bulk at most 1048576: NARROWER than '..Said'. Prove '..Said' where nothing that the law and all that it calls make is longer than what came in: it says more and counts as full. Else prove '..UptoSaid'. A law counts once. -/
mutual
def uptoBulk {H : Type} : DataW H → Nat
  | .lit (.string bytes) => bytes.length + 1
  | .lit _ => 1
  | .nil => 1
  | .ptr d => uptoBulk d + 1
  | .slice elems spare => uptoBulkAll elems + uptoBulkAll spare + 1
  | .agg parts => uptoBulkAll parts + 1
  | .iface _ d => uptoBulk d + 1
  | .map entries => uptoBulkEntries entries + 1
  | .held _ => 1
def uptoBulkAll {H : Type} : List (DataW H) → Nat
  | [] => 0
  | d :: r => uptoBulk d + uptoBulkAll r
def uptoBulkEntries {H : Type} : List (Lit × DataW H) → Nat
  | [] => 0
  | x :: r => uptoBulkEntry x + uptoBulkEntries r
def uptoBulkEntry {H : Type} : Lit × DataW H → Nat
  | (.string bytes, d) => bytes.length + uptoBulk d + 1
  | (_, d) => uptoBulk d + 1
 end
def uptoSmall : (H : Type) → List (DataW H) → Bool := fun _ ds => decide (uptoBulkAll ds ≤ 1048576)
def OpenSpec.upto (s : _root_.Go.ChangeSpec) : _root_.Go.OpenSpec := { _root_.Go.OpenSpec.ofChange s with cond := some uptoSmall }

/-- 'wakemanlaw31.RetryChains', WHERE WHAT IT READS IS OF BULK AT MOST 1048576: true; the input reads as it did. -/
def retryChainsUptoRow : OpenClaim := { program := "ytanipfenioaigaadoor", sum := "7c90a19b72b0ddd1f488d3b0e558024fb8034ebee9b774f3839074b7d7d39337", func := "wakeman/wakemanlaw31.RetryChains", spec := "retryChains", unfollowed := true, recurses := true, named := ["wakeman/mix.steps"], apart := false, laid := [("wakeman/mix.steps", laid_wakeman_mix_steps)], narrowed := true }
def RetryChainsUptoSaid : Prop := retryChainsUptoRow.holds Tryd.pinned (OpenSpec.upto retryChainsSpec)

/-- 'wakemanlaw31.RetryNexts', WHERE WHAT IT READS IS OF BULK AT MOST 1048576: true; the input reads as it did. -/
def retryNextsUptoRow : OpenClaim := { program := "ytanipfenioaigaadoor", sum := "7c90a19b72b0ddd1f488d3b0e558024fb8034ebee9b774f3839074b7d7d39337", func := "wakeman/wakemanlaw31.RetryNexts", spec := "retryNexts", unfollowed := true, recurses := true, named := ["wakeman/mix.steps"], apart := false, laid := [("wakeman/mix.steps", laid_wakeman_mix_steps)], narrowed := true }
def RetryNextsUptoSaid : Prop := retryNextsUptoRow.holds Tryd.pinned (OpenSpec.upto retryNextsSpec)

/-- 'wakemanlaw31.RetryBounds', WHERE WHAT IT READS IS OF BULK AT MOST 1048576: true; the input reads as it did. -/
def retryBoundsUptoRow : OpenClaim := { program := "ytanipfenioaigaadoor", sum := "7c90a19b72b0ddd1f488d3b0e558024fb8034ebee9b774f3839074b7d7d39337", func := "wakeman/wakemanlaw31.RetryBounds", spec := "retryBounds", unfollowed := true, recurses := true, named := ["wakeman/mix.steps"], apart := false, laid := [("wakeman/mix.steps", laid_wakeman_mix_steps)], narrowed := true }
def RetryBoundsUptoSaid : Prop := retryBoundsUptoRow.holds Tryd.pinned (OpenSpec.upto retryBoundsSpec)

/-- 'wakemanlaw31.RetryWithin', WHERE WHAT IT READS IS OF BULK AT MOST 1048576: true; the input reads as it did. -/
def retryWithinUptoRow : OpenClaim := { program := "ytanipfenioaigaadoor", sum := "7c90a19b72b0ddd1f488d3b0e558024fb8034ebee9b774f3839074b7d7d39337", func := "wakeman/wakemanlaw31.RetryWithin", spec := "retryWithin", unfollowed := true, recurses := true, named := ["wakeman/mix.steps"], apart := false, laid := [("wakeman/mix.steps", laid_wakeman_mix_steps)], narrowed := true }
def RetryWithinUptoSaid : Prop := retryWithinUptoRow.holds Tryd.pinned (OpenSpec.upto retryWithinSpec)

/-- 'wakemanlaw31.RetrySteps', WHERE WHAT IT READS IS OF BULK AT MOST 1048576: true; the input reads as it did. -/
def retryStepsUptoRow : OpenClaim := { program := "ytanipfenioaigaadoor", sum := "7c90a19b72b0ddd1f488d3b0e558024fb8034ebee9b774f3839074b7d7d39337", func := "wakeman/wakemanlaw31.RetrySteps", spec := "retrySteps", unfollowed := true, recurses := true, named := ["wakeman/mix.steps"], apart := false, laid := [("wakeman/mix.steps", laid_wakeman_mix_steps)], narrowed := true }
def RetryStepsUptoSaid : Prop := retryStepsUptoRow.holds Tryd.pinned (OpenSpec.upto retryStepsSpec)

/-- 'wakemanlaw31.RetryLatest', WHERE WHAT IT READS IS OF BULK AT MOST 1048576: true; the input reads as it did. -/
def retryLatestUptoRow : OpenClaim := { program := "ytanipfenioaigaadoor", sum := "7c90a19b72b0ddd1f488d3b0e558024fb8034ebee9b774f3839074b7d7d39337", func := "wakeman/wakemanlaw31.RetryLatest", spec := "retryLatest", unfollowed := true, recurses := true, named := ["wakeman/mix.steps"], apart := false, laid := [("wakeman/mix.steps", laid_wakeman_mix_steps)], narrowed := true }
def RetryLatestUptoSaid : Prop := retryLatestUptoRow.holds Tryd.pinned (OpenSpec.upto retryLatestSpec)

/-- 'wakemanlaw31.RetryLeft', WHERE WHAT IT READS IS OF BULK AT MOST 1048576: true; the input reads as it did. -/
def retryLeftUptoRow : OpenClaim := { program := "ytanipfenioaigaadoor", sum := "7c90a19b72b0ddd1f488d3b0e558024fb8034ebee9b774f3839074b7d7d39337", func := "wakeman/wakemanlaw31.RetryLeft", spec := "retryLeft", unfollowed := true, recurses := true, named := ["wakeman/mix.steps"], apart := false, laid := [("wakeman/mix.steps", laid_wakeman_mix_steps)], narrowed := true }
def RetryLeftUptoSaid : Prop := retryLeftUptoRow.holds Tryd.pinned (OpenSpec.upto retryLeftSpec)

/-- 'wakemanlaw31.RetryShifts', WHERE WHAT IT READS IS OF BULK AT MOST 1048576: true; the input reads as it did. -/
def retryShiftsUptoRow : OpenClaim := { program := "ytanipfenioaigaadoor", sum := "7c90a19b72b0ddd1f488d3b0e558024fb8034ebee9b774f3839074b7d7d39337", func := "wakeman/wakemanlaw31.RetryShifts", spec := "retryShifts", unfollowed := true, recurses := true, named := ["wakeman/mix.steps"], apart := false, laid := [("wakeman/mix.steps", laid_wakeman_mix_steps)], narrowed := true }
def RetryShiftsUptoSaid : Prop := retryShiftsUptoRow.holds Tryd.pinned (OpenSpec.upto retryShiftsSpec)

/-- 'wakemanlaw31.RetryErrors', WHERE WHAT IT READS IS OF BULK AT MOST 1048576: true; the input reads as it did. -/
def retryErrorsUptoRow : OpenClaim := { program := "ytanipfenioaigaadoor", sum := "7c90a19b72b0ddd1f488d3b0e558024fb8034ebee9b774f3839074b7d7d39337", func := "wakeman/wakemanlaw31.RetryErrors", spec := "retryErrors", unfollowed := true, recurses := true, named := ["wakeman/mix.steps"], apart := false, laid := [("wakeman/mix.steps", laid_wakeman_mix_steps)], narrowed := true }
def RetryErrorsUptoSaid : Prop := retryErrorsUptoRow.holds Tryd.pinned (OpenSpec.upto retryErrorsSpec)

end Rows
end Go.Proofs.YtanipfenioaigaaDoor
