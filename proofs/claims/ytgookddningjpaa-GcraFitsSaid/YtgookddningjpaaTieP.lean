/-
  What every plain row of this seat asks of the program.
-/
import Derived.Test.YtgookddningjpaaRows
import Derived.Test.YtgookddningjpaaLaw
set_option linter.unusedVariables false
namespace Go.Proofs.Ytgookddningjpaa
open Go.ChangeShapes Go.WideShapes Go.ChangeAt Go.RowKit

theorem own_ : ownKnob Try.prog.godebug = none := by kernel_rfl
theorem laidOut_ : laidOutB Try.prog = true := by kernel_rfl
end Go.Proofs.Ytgookddningjpaa
