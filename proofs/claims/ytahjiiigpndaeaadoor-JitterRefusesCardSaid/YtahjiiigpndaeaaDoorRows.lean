/-
  NARROWER THAN 'FOR EVERY INPUT', by the rows' own cells (each row's printed sentence says how): JitterRefuses: laid · JitterWaits: laid · JitterSpreads: laid · JitterSames: laid · JitterBelow: laid · JitterMade: laid · JitterSpread: laid · JitterSame: laid · JitterLists: laid · JitterFirst: laid.
  DERIVED. THE GIVEN ROWS OF THIS SEAT. 10 by the template 'for every input the law returns true; each argument reads behind the call as it read before'; 0 by the template 'total and deterministic' (their statements: YtahjiiigpndaeaaDoorTotals.lean).
  GIVEN WITH THE SEED: the statements are not yours to turn. If you find one false, say at which input.
  Laid BY PROGRAM, IN A SANDBOX (cutbox-rows.mjs): the forced cells as the released guide's own fill.sh prints them over the translation 3202b6eb1795c656… (all of the seat's roots in one cut). By AI agents, Wed Nov 11 2026. No macro, syntax, notation, axiom, sorry.
-/
import Derived.Test.YtahjiiigpndaeaaDoorChecked
import GoSem.Claim
import GoSem.ClaimJoined
import GoSem.ClaimMapViews
import Derived.JoinedTies
import Derived.KernelRfl
namespace Go.Proofs.YtahjiiigpndaeaaDoor
/- THE CELL 'sum', in the pinned program and in every row, IS THE sha256 OF THE DUMP (.gsa) THAT YtahjiiigpndaeaaDoorProg.lean LOADS. Nothing in Lean hashes anything: it is a label: what it is worth is what the hold of that sum in a sandbox is worth. -/
noncomputable def Tryd.pinned : Pinned := { name := "ytahjiiigpndaeaadoor", sum := "3202b6eb1795c656305ff89e751a2cca9b5d3d26f0482022e4c1f8586340d9a0", checked := Tryd.checked }
namespace Rows
def none {H : Type} : Left H := { results := [], args := [] }

/- WHAT THE LISTED PACKAGE-LEVEL VARIABLES READ AS WHEN THE CALL BEGINS. Each datum BY PROGRAM (the guide's laid-datum.mjs) off the statement by which the dump's own 'gosem.cut.vars' lays the variable. In a bare row this is a premise. The card (YtahjiiigpndaeaaDoorCards.lean) ties it to the program's text. -/
def laid_wakeman_mix_steps {H : Type} : DataW H := .agg [.agg [.lit (.int .i64 30), .lit (.int .u64 13787848793156543929)], .agg [.lit (.int .i64 27), .lit (.int .u64 10723151780598845931)], .agg [.lit (.int .i64 31), .lit (.int .u64 1)]]

/-- 'wakemanlaw29.JitterRefuses': WHATEVER THE INPUT: true; the input reads as it did. -/
def jitterRefusesSpec : ChangeSpec := { name := "jitterRefuses", fn := fun _ => fun
  | [d1, d2] => { results := [.lit (.bool true)], args := [d1, d2] }
  | _ => none }
def jitterRefusesRow : OpenClaim := { program := "ytahjiiigpndaeaadoor", sum := "3202b6eb1795c656305ff89e751a2cca9b5d3d26f0482022e4c1f8586340d9a0", func := "wakeman/wakemanlaw29.JitterRefuses", spec := "jitterRefuses", inPlace := ["internal/abi.NoEscape", "internal/bytealg.MakeNoZero"], unfollowed := true, recurses := true, named := ["wakeman/mix.steps"], apart := false, laid := [("wakeman/mix.steps", laid_wakeman_mix_steps)] }
def JitterRefusesSaid : Prop := jitterRefusesRow.holds Tryd.pinned (OpenSpec.ofChange jitterRefusesSpec)

/-- ITS FALSE NEIGHBOUR: 'it returns false'. Refute it at one input. -/
def jitterRefusesWrong : ChangeSpec := { name := "jitterRefuses", fn := fun _ => fun
  | [d1, d2] => { results := [.lit (.bool false)], args := [d1, d2] }
  | _ => none }
def JitterRefusesWrongFalsely : Prop := jitterRefusesRow.holds Tryd.pinned (OpenSpec.ofChange jitterRefusesWrong)

/-- 'wakemanlaw29.JitterWaits': WHATEVER THE INPUT: true; the input reads as it did. -/
def jitterWaitsSpec : ChangeSpec := { name := "jitterWaits", fn := fun _ => fun
  | [d] => { results := [.lit (.bool true)], args := [d] }
  | _ => none }
def jitterWaitsRow : OpenClaim := { program := "ytahjiiigpndaeaadoor", sum := "3202b6eb1795c656305ff89e751a2cca9b5d3d26f0482022e4c1f8586340d9a0", func := "wakeman/wakemanlaw29.JitterWaits", spec := "jitterWaits", unfollowed := true, recurses := true, named := ["wakeman/mix.steps"], apart := false, laid := [("wakeman/mix.steps", laid_wakeman_mix_steps)] }
def JitterWaitsSaid : Prop := jitterWaitsRow.holds Tryd.pinned (OpenSpec.ofChange jitterWaitsSpec)

/-- ITS FALSE NEIGHBOUR: 'it returns false'. Refute it at one input. -/
def jitterWaitsWrong : ChangeSpec := { name := "jitterWaits", fn := fun _ => fun
  | [d] => { results := [.lit (.bool false)], args := [d] }
  | _ => none }
def JitterWaitsWrongFalsely : Prop := jitterWaitsRow.holds Tryd.pinned (OpenSpec.ofChange jitterWaitsWrong)

/-- 'wakemanlaw29.JitterSpreads': WHATEVER THE INPUT: true; the input reads as it did. -/
def jitterSpreadsSpec : ChangeSpec := { name := "jitterSpreads", fn := fun _ => fun
  | [d1, d2] => { results := [.lit (.bool true)], args := [d1, d2] }
  | _ => none }
def jitterSpreadsRow : OpenClaim := { program := "ytahjiiigpndaeaadoor", sum := "3202b6eb1795c656305ff89e751a2cca9b5d3d26f0482022e4c1f8586340d9a0", func := "wakeman/wakemanlaw29.JitterSpreads", spec := "jitterSpreads", unfollowed := true, recurses := true, named := ["wakeman/mix.steps"], apart := false, laid := [("wakeman/mix.steps", laid_wakeman_mix_steps)] }
def JitterSpreadsSaid : Prop := jitterSpreadsRow.holds Tryd.pinned (OpenSpec.ofChange jitterSpreadsSpec)

/-- ITS FALSE NEIGHBOUR: 'it returns false'. Refute it at one input. -/
def jitterSpreadsWrong : ChangeSpec := { name := "jitterSpreads", fn := fun _ => fun
  | [d1, d2] => { results := [.lit (.bool false)], args := [d1, d2] }
  | _ => none }
def JitterSpreadsWrongFalsely : Prop := jitterSpreadsRow.holds Tryd.pinned (OpenSpec.ofChange jitterSpreadsWrong)

/-- 'wakemanlaw29.JitterSames': WHATEVER THE INPUT: true; the input reads as it did. -/
def jitterSamesSpec : ChangeSpec := { name := "jitterSames", fn := fun _ => fun
  | [d1, d2] => { results := [.lit (.bool true)], args := [d1, d2] }
  | _ => none }
def jitterSamesRow : OpenClaim := { program := "ytahjiiigpndaeaadoor", sum := "3202b6eb1795c656305ff89e751a2cca9b5d3d26f0482022e4c1f8586340d9a0", func := "wakeman/wakemanlaw29.JitterSames", spec := "jitterSames", unfollowed := true, recurses := true, named := ["wakeman/mix.steps"], apart := false, laid := [("wakeman/mix.steps", laid_wakeman_mix_steps)] }
def JitterSamesSaid : Prop := jitterSamesRow.holds Tryd.pinned (OpenSpec.ofChange jitterSamesSpec)

/-- ITS FALSE NEIGHBOUR: 'it returns false'. Refute it at one input. -/
def jitterSamesWrong : ChangeSpec := { name := "jitterSames", fn := fun _ => fun
  | [d1, d2] => { results := [.lit (.bool false)], args := [d1, d2] }
  | _ => none }
def JitterSamesWrongFalsely : Prop := jitterSamesRow.holds Tryd.pinned (OpenSpec.ofChange jitterSamesWrong)

/-- 'wakemanlaw29.JitterBelow': WHATEVER THE INPUT: true; the input reads as it did. -/
def jitterBelowSpec : ChangeSpec := { name := "jitterBelow", fn := fun _ => fun
  | [d1, d2, d3, d4, d5, d6] => { results := [.lit (.bool true)], args := [d1, d2, d3, d4, d5, d6] }
  | _ => none }
def jitterBelowRow : OpenClaim := { program := "ytahjiiigpndaeaadoor", sum := "3202b6eb1795c656305ff89e751a2cca9b5d3d26f0482022e4c1f8586340d9a0", func := "wakeman/wakemanlaw29.JitterBelow", spec := "jitterBelow", unfollowed := true, recurses := true, named := ["wakeman/mix.steps"], apart := false, laid := [("wakeman/mix.steps", laid_wakeman_mix_steps)] }
def JitterBelowSaid : Prop := jitterBelowRow.holds Tryd.pinned (OpenSpec.ofChange jitterBelowSpec)

/-- ITS FALSE NEIGHBOUR: 'it returns false'. Refute it at one input. -/
def jitterBelowWrong : ChangeSpec := { name := "jitterBelow", fn := fun _ => fun
  | [d1, d2, d3, d4, d5, d6] => { results := [.lit (.bool false)], args := [d1, d2, d3, d4, d5, d6] }
  | _ => none }
def JitterBelowWrongFalsely : Prop := jitterBelowRow.holds Tryd.pinned (OpenSpec.ofChange jitterBelowWrong)

/-- 'wakemanlaw29.JitterMade': WHATEVER THE INPUT: true; the input reads as it did. -/
def jitterMadeSpec : ChangeSpec := { name := "jitterMade", fn := fun _ => fun
  | [d1, d2, d3, d4, d5] => { results := [.lit (.bool true)], args := [d1, d2, d3, d4, d5] }
  | _ => none }
def jitterMadeRow : OpenClaim := { program := "ytahjiiigpndaeaadoor", sum := "3202b6eb1795c656305ff89e751a2cca9b5d3d26f0482022e4c1f8586340d9a0", func := "wakeman/wakemanlaw29.JitterMade", spec := "jitterMade", unfollowed := true, recurses := true, named := ["wakeman/mix.steps"], apart := false, laid := [("wakeman/mix.steps", laid_wakeman_mix_steps)] }
def JitterMadeSaid : Prop := jitterMadeRow.holds Tryd.pinned (OpenSpec.ofChange jitterMadeSpec)

/-- ITS FALSE NEIGHBOUR: 'it returns false'. Refute it at one input. -/
def jitterMadeWrong : ChangeSpec := { name := "jitterMade", fn := fun _ => fun
  | [d1, d2, d3, d4, d5] => { results := [.lit (.bool false)], args := [d1, d2, d3, d4, d5] }
  | _ => none }
def JitterMadeWrongFalsely : Prop := jitterMadeRow.holds Tryd.pinned (OpenSpec.ofChange jitterMadeWrong)

/-- 'wakemanlaw29.JitterSpread': WHATEVER THE INPUT: true; the input reads as it did. -/
def jitterSpreadSpec : ChangeSpec := { name := "jitterSpread", fn := fun _ => fun
  | [d1, d2, d3, d4, d5, d6] => { results := [.lit (.bool true)], args := [d1, d2, d3, d4, d5, d6] }
  | _ => none }
def jitterSpreadRow : OpenClaim := { program := "ytahjiiigpndaeaadoor", sum := "3202b6eb1795c656305ff89e751a2cca9b5d3d26f0482022e4c1f8586340d9a0", func := "wakeman/wakemanlaw29.JitterSpread", spec := "jitterSpread", unfollowed := true, recurses := true, named := ["wakeman/mix.steps"], apart := false, laid := [("wakeman/mix.steps", laid_wakeman_mix_steps)] }
def JitterSpreadSaid : Prop := jitterSpreadRow.holds Tryd.pinned (OpenSpec.ofChange jitterSpreadSpec)

/-- ITS FALSE NEIGHBOUR: 'it returns false'. Refute it at one input. -/
def jitterSpreadWrong : ChangeSpec := { name := "jitterSpread", fn := fun _ => fun
  | [d1, d2, d3, d4, d5, d6] => { results := [.lit (.bool false)], args := [d1, d2, d3, d4, d5, d6] }
  | _ => none }
def JitterSpreadWrongFalsely : Prop := jitterSpreadRow.holds Tryd.pinned (OpenSpec.ofChange jitterSpreadWrong)

/-- 'wakemanlaw29.JitterSame': WHATEVER THE INPUT: true; the input reads as it did. -/
def jitterSameSpec : ChangeSpec := { name := "jitterSame", fn := fun _ => fun
  | [d1, d2, d3, d4, d5, d6] => { results := [.lit (.bool true)], args := [d1, d2, d3, d4, d5, d6] }
  | _ => none }
def jitterSameRow : OpenClaim := { program := "ytahjiiigpndaeaadoor", sum := "3202b6eb1795c656305ff89e751a2cca9b5d3d26f0482022e4c1f8586340d9a0", func := "wakeman/wakemanlaw29.JitterSame", spec := "jitterSame", unfollowed := true, recurses := true, named := ["wakeman/mix.steps"], apart := false, laid := [("wakeman/mix.steps", laid_wakeman_mix_steps)] }
def JitterSameSaid : Prop := jitterSameRow.holds Tryd.pinned (OpenSpec.ofChange jitterSameSpec)

/-- ITS FALSE NEIGHBOUR: 'it returns false'. Refute it at one input. -/
def jitterSameWrong : ChangeSpec := { name := "jitterSame", fn := fun _ => fun
  | [d1, d2, d3, d4, d5, d6] => { results := [.lit (.bool false)], args := [d1, d2, d3, d4, d5, d6] }
  | _ => none }
def JitterSameWrongFalsely : Prop := jitterSameRow.holds Tryd.pinned (OpenSpec.ofChange jitterSameWrong)

/-- 'wakemanlaw29.JitterLists': WHATEVER THE INPUT: true; the input reads as it did. -/
def jitterListsSpec : ChangeSpec := { name := "jitterLists", fn := fun _ => fun
  | [d] => { results := [.lit (.bool true)], args := [d] }
  | _ => none }
def jitterListsRow : OpenClaim := { program := "ytahjiiigpndaeaadoor", sum := "3202b6eb1795c656305ff89e751a2cca9b5d3d26f0482022e4c1f8586340d9a0", func := "wakeman/wakemanlaw29.JitterLists", spec := "jitterLists", unfollowed := true, recurses := true, named := ["wakeman/mix.steps"], apart := false, laid := [("wakeman/mix.steps", laid_wakeman_mix_steps)] }
def JitterListsSaid : Prop := jitterListsRow.holds Tryd.pinned (OpenSpec.ofChange jitterListsSpec)

/-- ITS FALSE NEIGHBOUR: 'it returns false'. Refute it at one input. -/
def jitterListsWrong : ChangeSpec := { name := "jitterLists", fn := fun _ => fun
  | [d] => { results := [.lit (.bool false)], args := [d] }
  | _ => none }
def JitterListsWrongFalsely : Prop := jitterListsRow.holds Tryd.pinned (OpenSpec.ofChange jitterListsWrong)

/-- 'wakemanlaw29.JitterFirst': WHATEVER THE INPUT: true; the input reads as it did. -/
def jitterFirstSpec : ChangeSpec := { name := "jitterFirst", fn := fun _ => fun
  | [d1, d2, d3, d4, d5, d6] => { results := [.lit (.bool true)], args := [d1, d2, d3, d4, d5, d6] }
  | _ => none }
def jitterFirstRow : OpenClaim := { program := "ytahjiiigpndaeaadoor", sum := "3202b6eb1795c656305ff89e751a2cca9b5d3d26f0482022e4c1f8586340d9a0", func := "wakeman/wakemanlaw29.JitterFirst", spec := "jitterFirst", unfollowed := true, recurses := true, named := ["wakeman/mix.steps"], apart := false, laid := [("wakeman/mix.steps", laid_wakeman_mix_steps)] }
def JitterFirstSaid : Prop := jitterFirstRow.holds Tryd.pinned (OpenSpec.ofChange jitterFirstSpec)

/-- ITS FALSE NEIGHBOUR: 'it returns false'. Refute it at one input. -/
def jitterFirstWrong : ChangeSpec := { name := "jitterFirst", fn := fun _ => fun
  | [d1, d2, d3, d4, d5, d6] => { results := [.lit (.bool false)], args := [d1, d2, d3, d4, d5, d6] }
  | _ => none }
def JitterFirstWrongFalsely : Prop := jitterFirstRow.holds Tryd.pinned (OpenSpec.ofChange jitterFirstWrong)

/- THE SECOND FORM. 'bulk': how many values and letters a reading holds, each counted each time it is reached (what is shared counts as often as it is met; a slice's spare places count too). A statement '..UptoSaid' is the law's where the arguments, and the package variables that the reading takes, are together of bulk at most 1048576: NARROWER than '..Said'. Prove '..Said' where nothing that the law and all that it calls make is longer than what came in: it says more and counts as full. Else prove '..UptoSaid'. A law counts once. -/
mutual
def uptoBulk {H : Type} : DataW H → Nat
  | .lit (.string bytes) => bytes.length + 1
  | .lit _ => 1
  | .nil => 1
  | .ptr d => uptoBulk d + 1
  | .slice elems spare => uptoBulkAll elems + uptoBulkAll spare + 1
  | .agg parts => uptoBulkAll parts + 1
  | .iface _ d => uptoBulk d + 1
  | .map entries => uptoBulkEntries entries + 1
  | .held _ => 1
def uptoBulkAll {H : Type} : List (DataW H) → Nat
  | [] => 0
  | d :: r => uptoBulk d + uptoBulkAll r
def uptoBulkEntries {H : Type} : List (Lit × DataW H) → Nat
  | [] => 0
  | x :: r => uptoBulkEntry x + uptoBulkEntries r
def uptoBulkEntry {H : Type} : Lit × DataW H → Nat
  | (.string bytes, d) => bytes.length + uptoBulk d + 1
  | (_, d) => uptoBulk d + 1
 end
def uptoSmall : (H : Type) → List (DataW H) → Bool := fun _ ds => decide (uptoBulkAll ds ≤ 1048576)
def OpenSpec.upto (s : _root_.Go.ChangeSpec) : _root_.Go.OpenSpec := { _root_.Go.OpenSpec.ofChange s with cond := some uptoSmall }

/-- 'wakemanlaw29.JitterRefuses', WHERE WHAT IT READS IS OF BULK AT MOST 1048576: true; the input reads as it did. -/
def jitterRefusesUptoRow : OpenClaim := { program := "ytahjiiigpndaeaadoor", sum := "3202b6eb1795c656305ff89e751a2cca9b5d3d26f0482022e4c1f8586340d9a0", func := "wakeman/wakemanlaw29.JitterRefuses", spec := "jitterRefuses", inPlace := ["internal/abi.NoEscape", "internal/bytealg.MakeNoZero"], unfollowed := true, recurses := true, named := ["wakeman/mix.steps"], apart := false, laid := [("wakeman/mix.steps", laid_wakeman_mix_steps)], narrowed := true }
def JitterRefusesUptoSaid : Prop := jitterRefusesUptoRow.holds Tryd.pinned (OpenSpec.upto jitterRefusesSpec)

/-- 'wakemanlaw29.JitterWaits', WHERE WHAT IT READS IS OF BULK AT MOST 1048576: true; the input reads as it did. -/
def jitterWaitsUptoRow : OpenClaim := { program := "ytahjiiigpndaeaadoor", sum := "3202b6eb1795c656305ff89e751a2cca9b5d3d26f0482022e4c1f8586340d9a0", func := "wakeman/wakemanlaw29.JitterWaits", spec := "jitterWaits", unfollowed := true, recurses := true, named := ["wakeman/mix.steps"], apart := false, laid := [("wakeman/mix.steps", laid_wakeman_mix_steps)], narrowed := true }
def JitterWaitsUptoSaid : Prop := jitterWaitsUptoRow.holds Tryd.pinned (OpenSpec.upto jitterWaitsSpec)

/-- 'wakemanlaw29.JitterSpreads', WHERE WHAT IT READS IS OF BULK AT MOST 1048576: true; the input reads as it did. -/
def jitterSpreadsUptoRow : OpenClaim := { program := "ytahjiiigpndaeaadoor", sum := "3202b6eb1795c656305ff89e751a2cca9b5d3d26f0482022e4c1f8586340d9a0", func := "wakeman/wakemanlaw29.JitterSpreads", spec := "jitterSpreads", unfollowed := true, recurses := true, named := ["wakeman/mix.steps"], apart := false, laid := [("wakeman/mix.steps", laid_wakeman_mix_steps)], narrowed := true }
def JitterSpreadsUptoSaid : Prop := jitterSpreadsUptoRow.holds Tryd.pinned (OpenSpec.upto jitterSpreadsSpec)

/-- 'wakemanlaw29.JitterSames', WHERE WHAT IT READS IS OF BULK AT MOST 1048576: true; the input reads as it did. -/
def jitterSamesUptoRow : OpenClaim := { program := "ytahjiiigpndaeaadoor", sum := "3202b6eb1795c656305ff89e751a2cca9b5d3d26f0482022e4c1f8586340d9a0", func := "wakeman/wakemanlaw29.JitterSames", spec := "jitterSames", unfollowed := true, recurses := true, named := ["wakeman/mix.steps"], apart := false, laid := [("wakeman/mix.steps", laid_wakeman_mix_steps)], narrowed := true }
def JitterSamesUptoSaid : Prop := jitterSamesUptoRow.holds Tryd.pinned (OpenSpec.upto jitterSamesSpec)

/-- 'wakemanlaw29.JitterBelow', WHERE WHAT IT READS IS OF BULK AT MOST 1048576: true; the input reads as it did. -/
def jitterBelowUptoRow : OpenClaim := { program := "ytahjiiigpndaeaadoor", sum := "3202b6eb1795c656305ff89e751a2cca9b5d3d26f0482022e4c1f8586340d9a0", func := "wakeman/wakemanlaw29.JitterBelow", spec := "jitterBelow", unfollowed := true, recurses := true, named := ["wakeman/mix.steps"], apart := false, laid := [("wakeman/mix.steps", laid_wakeman_mix_steps)], narrowed := true }
def JitterBelowUptoSaid : Prop := jitterBelowUptoRow.holds Tryd.pinned (OpenSpec.upto jitterBelowSpec)

/-- 'wakemanlaw29.JitterMade', WHERE WHAT IT READS IS OF BULK AT MOST 1048576: true; the input reads as it did. -/
def jitterMadeUptoRow : OpenClaim := { program := "ytahjiiigpndaeaadoor", sum := "3202b6eb1795c656305ff89e751a2cca9b5d3d26f0482022e4c1f8586340d9a0", func := "wakeman/wakemanlaw29.JitterMade", spec := "jitterMade", unfollowed := true, recurses := true, named := ["wakeman/mix.steps"], apart := false, laid := [("wakeman/mix.steps", laid_wakeman_mix_steps)], narrowed := true }
def JitterMadeUptoSaid : Prop := jitterMadeUptoRow.holds Tryd.pinned (OpenSpec.upto jitterMadeSpec)

/-- 'wakemanlaw29.JitterSpread', WHERE WHAT IT READS IS OF BULK AT MOST 1048576: true; the input reads as it did. -/
def jitterSpreadUptoRow : OpenClaim := { program := "ytahjiiigpndaeaadoor", sum := "3202b6eb1795c656305ff89e751a2cca9b5d3d26f0482022e4c1f8586340d9a0", func := "wakeman/wakemanlaw29.JitterSpread", spec := "jitterSpread", unfollowed := true, recurses := true, named := ["wakeman/mix.steps"], apart := false, laid := [("wakeman/mix.steps", laid_wakeman_mix_steps)], narrowed := true }
def JitterSpreadUptoSaid : Prop := jitterSpreadUptoRow.holds Tryd.pinned (OpenSpec.upto jitterSpreadSpec)

/-- 'wakemanlaw29.JitterSame', WHERE WHAT IT READS IS OF BULK AT MOST 1048576: true; the input reads as it did. -/
def jitterSameUptoRow : OpenClaim := { program := "ytahjiiigpndaeaadoor", sum := "3202b6eb1795c656305ff89e751a2cca9b5d3d26f0482022e4c1f8586340d9a0", func := "wakeman/wakemanlaw29.JitterSame", spec := "jitterSame", unfollowed := true, recurses := true, named := ["wakeman/mix.steps"], apart := false, laid := [("wakeman/mix.steps", laid_wakeman_mix_steps)], narrowed := true }
def JitterSameUptoSaid : Prop := jitterSameUptoRow.holds Tryd.pinned (OpenSpec.upto jitterSameSpec)

/-- 'wakemanlaw29.JitterLists', WHERE WHAT IT READS IS OF BULK AT MOST 1048576: true; the input reads as it did. -/
def jitterListsUptoRow : OpenClaim := { program := "ytahjiiigpndaeaadoor", sum := "3202b6eb1795c656305ff89e751a2cca9b5d3d26f0482022e4c1f8586340d9a0", func := "wakeman/wakemanlaw29.JitterLists", spec := "jitterLists", unfollowed := true, recurses := true, named := ["wakeman/mix.steps"], apart := false, laid := [("wakeman/mix.steps", laid_wakeman_mix_steps)], narrowed := true }
def JitterListsUptoSaid : Prop := jitterListsUptoRow.holds Tryd.pinned (OpenSpec.upto jitterListsSpec)

/-- 'wakemanlaw29.JitterFirst', WHERE WHAT IT READS IS OF BULK AT MOST 1048576: true; the input reads as it did. -/
def jitterFirstUptoRow : OpenClaim := { program := "ytahjiiigpndaeaadoor", sum := "3202b6eb1795c656305ff89e751a2cca9b5d3d26f0482022e4c1f8586340d9a0", func := "wakeman/wakemanlaw29.JitterFirst", spec := "jitterFirst", unfollowed := true, recurses := true, named := ["wakeman/mix.steps"], apart := false, laid := [("wakeman/mix.steps", laid_wakeman_mix_steps)], narrowed := true }
def JitterFirstUptoSaid : Prop := jitterFirstUptoRow.holds Tryd.pinned (OpenSpec.upto jitterFirstSpec)

end Rows
end Go.Proofs.YtahjiiigpndaeaaDoor
