/-
  No cell of these rows narrows 'for every input' (looked for: loops, veiled, ifaces, maps, wideKeys, modest, calm, conditions, laid).
  DERIVED. THE GIVEN ROWS OF THIS SEAT. 9 by the template 'for every input the law returns true; each argument reads behind the call as it read before'; 0 by the template 'total and deterministic' (their statements: YtabgddiecddbhaaTotals.lean).
  GIVEN WITH THE SEED: the statements are not yours to turn. If you find one false, say at which input.
  Laid BY PROGRAM, IN A SANDBOX (cutbox-rows.mjs): the forced cells as the released guide's own fill.sh prints them over the translation fa89438437210871… (all of the seat's roots in one cut). By AI agents, Wed Nov 11 2026. No macro, syntax, notation, axiom, sorry.
-/
import Derived.Test.YtabgddiecddbhaaChecked
import GoSem.Claim
import GoSem.ClaimJoined
import GoSem.ClaimMapViews
import Derived.JoinedTies
import Derived.KernelRfl
namespace Go.Proofs.Ytabgddiecddbhaa
/- THE CELL 'sum', in the pinned program and in every row, IS THE sha256 OF THE DUMP (.gsa) THAT YtabgddiecddbhaaProg.lean LOADS. Nothing in Lean hashes anything: it is a label: what it is worth is what the hold of that sum in a sandbox is worth. -/
noncomputable def Try.pinned : Pinned := { name := "ytabgddiecddbhaa", sum := "fa894384372108715419da3bf7a32f4a5092cb9187969724e6905d7bd8569461", checked := Try.checked }
namespace Rows
def none {H : Type} : Left H := { results := [], args := [] }

/-- 'wakemanlaw30.BackoffWaits': WHATEVER THE INPUT: true; the input reads as it did. -/
def backoffWaitsSpec : ChangeSpec := { name := "backoffWaits", fn := fun _ => fun
  | [d1, d2] => { results := [.lit (.bool true)], args := [d1, d2] }
  | _ => none }
def backoffWaitsRow : OpenClaim := { program := "ytabgddiecddbhaa", sum := "fa894384372108715419da3bf7a32f4a5092cb9187969724e6905d7bd8569461", func := "wakeman/wakemanlaw30.BackoffWaits", spec := "backoffWaits", unfollowed := true, recurses := true, apart := false }
def BackoffWaitsSaid : Prop := backoffWaitsRow.holds Try.pinned (OpenSpec.ofChange backoffWaitsSpec)

/-- ITS FALSE NEIGHBOUR: 'it returns false'. Refute it at one input. -/
def backoffWaitsWrong : ChangeSpec := { name := "backoffWaits", fn := fun _ => fun
  | [d1, d2] => { results := [.lit (.bool false)], args := [d1, d2] }
  | _ => none }
def BackoffWaitsWrongFalsely : Prop := backoffWaitsRow.holds Try.pinned (OpenSpec.ofChange backoffWaitsWrong)

/-- 'wakemanlaw30.BackoffLists': WHATEVER THE INPUT: true; the input reads as it did. -/
def backoffListsSpec : ChangeSpec := { name := "backoffLists", fn := fun _ => fun
  | [d] => { results := [.lit (.bool true)], args := [d] }
  | _ => none }
def backoffListsRow : OpenClaim := { program := "ytabgddiecddbhaa", sum := "fa894384372108715419da3bf7a32f4a5092cb9187969724e6905d7bd8569461", func := "wakeman/wakemanlaw30.BackoffLists", spec := "backoffLists", unfollowed := true, recurses := true, apart := false }
def BackoffListsSaid : Prop := backoffListsRow.holds Try.pinned (OpenSpec.ofChange backoffListsSpec)

/-- ITS FALSE NEIGHBOUR: 'it returns false'. Refute it at one input. -/
def backoffListsWrong : ChangeSpec := { name := "backoffLists", fn := fun _ => fun
  | [d] => { results := [.lit (.bool false)], args := [d] }
  | _ => none }
def BackoffListsWrongFalsely : Prop := backoffListsRow.holds Try.pinned (OpenSpec.ofChange backoffListsWrong)

/-- 'wakemanlaw30.BackoffSpans': WHATEVER THE INPUT: true; the input reads as it did. -/
def backoffSpansSpec : ChangeSpec := { name := "backoffSpans", fn := fun _ => fun
  | [d1, d2] => { results := [.lit (.bool true)], args := [d1, d2] }
  | _ => none }
def backoffSpansRow : OpenClaim := { program := "ytabgddiecddbhaa", sum := "fa894384372108715419da3bf7a32f4a5092cb9187969724e6905d7bd8569461", func := "wakeman/wakemanlaw30.BackoffSpans", spec := "backoffSpans", unfollowed := true, recurses := true, apart := false }
def BackoffSpansSaid : Prop := backoffSpansRow.holds Try.pinned (OpenSpec.ofChange backoffSpansSpec)

/-- ITS FALSE NEIGHBOUR: 'it returns false'. Refute it at one input. -/
def backoffSpansWrong : ChangeSpec := { name := "backoffSpans", fn := fun _ => fun
  | [d1, d2] => { results := [.lit (.bool false)], args := [d1, d2] }
  | _ => none }
def BackoffSpansWrongFalsely : Prop := backoffSpansRow.holds Try.pinned (OpenSpec.ofChange backoffSpansWrong)

/-- 'wakemanlaw30.BackoffGrows': WHATEVER THE INPUT: true; the input reads as it did. -/
def backoffGrowsSpec : ChangeSpec := { name := "backoffGrows", fn := fun _ => fun
  | [d] => { results := [.lit (.bool true)], args := [d] }
  | _ => none }
def backoffGrowsRow : OpenClaim := { program := "ytabgddiecddbhaa", sum := "fa894384372108715419da3bf7a32f4a5092cb9187969724e6905d7bd8569461", func := "wakeman/wakemanlaw30.BackoffGrows", spec := "backoffGrows", unfollowed := true, recurses := true, apart := false }
def BackoffGrowsSaid : Prop := backoffGrowsRow.holds Try.pinned (OpenSpec.ofChange backoffGrowsSpec)

/-- ITS FALSE NEIGHBOUR: 'it returns false'. Refute it at one input. -/
def backoffGrowsWrong : ChangeSpec := { name := "backoffGrows", fn := fun _ => fun
  | [d] => { results := [.lit (.bool false)], args := [d] }
  | _ => none }
def BackoffGrowsWrongFalsely : Prop := backoffGrowsRow.holds Try.pinned (OpenSpec.ofChange backoffGrowsWrong)

/-- 'wakemanlaw30.BackoffPowers': WHATEVER THE INPUT: true; the input reads as it did. -/
def backoffPowersSpec : ChangeSpec := { name := "backoffPowers", fn := fun _ => fun
  | [d1, d2] => { results := [.lit (.bool true)], args := [d1, d2] }
  | _ => none }
def backoffPowersRow : OpenClaim := { program := "ytabgddiecddbhaa", sum := "fa894384372108715419da3bf7a32f4a5092cb9187969724e6905d7bd8569461", func := "wakeman/wakemanlaw30.BackoffPowers", spec := "backoffPowers", unfollowed := true, recurses := true, apart := false }
def BackoffPowersSaid : Prop := backoffPowersRow.holds Try.pinned (OpenSpec.ofChange backoffPowersSpec)

/-- ITS FALSE NEIGHBOUR: 'it returns false'. Refute it at one input. -/
def backoffPowersWrong : ChangeSpec := { name := "backoffPowers", fn := fun _ => fun
  | [d1, d2] => { results := [.lit (.bool false)], args := [d1, d2] }
  | _ => none }
def BackoffPowersWrongFalsely : Prop := backoffPowersRow.holds Try.pinned (OpenSpec.ofChange backoffPowersWrong)

/-- 'wakemanlaw30.BackoffSums': WHATEVER THE INPUT: true; the input reads as it did. -/
def backoffSumsSpec : ChangeSpec := { name := "backoffSums", fn := fun _ => fun
  | [d1, d2] => { results := [.lit (.bool true)], args := [d1, d2] }
  | _ => none }
def backoffSumsRow : OpenClaim := { program := "ytabgddiecddbhaa", sum := "fa894384372108715419da3bf7a32f4a5092cb9187969724e6905d7bd8569461", func := "wakeman/wakemanlaw30.BackoffSums", spec := "backoffSums", unfollowed := true, recurses := true, apart := false }
def BackoffSumsSaid : Prop := backoffSumsRow.holds Try.pinned (OpenSpec.ofChange backoffSumsSpec)

/-- ITS FALSE NEIGHBOUR: 'it returns false'. Refute it at one input. -/
def backoffSumsWrong : ChangeSpec := { name := "backoffSums", fn := fun _ => fun
  | [d1, d2] => { results := [.lit (.bool false)], args := [d1, d2] }
  | _ => none }
def BackoffSumsWrongFalsely : Prop := backoffSumsRow.holds Try.pinned (OpenSpec.ofChange backoffSumsWrong)

/-- 'wakemanlaw30.BackoffReaches': WHATEVER THE INPUT: true; the input reads as it did. -/
def backoffReachesSpec : ChangeSpec := { name := "backoffReaches", fn := fun _ => fun
  | [d] => { results := [.lit (.bool true)], args := [d] }
  | _ => none }
def backoffReachesRow : OpenClaim := { program := "ytabgddiecddbhaa", sum := "fa894384372108715419da3bf7a32f4a5092cb9187969724e6905d7bd8569461", func := "wakeman/wakemanlaw30.BackoffReaches", spec := "backoffReaches", unfollowed := true, recurses := true, apart := false }
def BackoffReachesSaid : Prop := backoffReachesRow.holds Try.pinned (OpenSpec.ofChange backoffReachesSpec)

/-- ITS FALSE NEIGHBOUR: 'it returns false'. Refute it at one input. -/
def backoffReachesWrong : ChangeSpec := { name := "backoffReaches", fn := fun _ => fun
  | [d] => { results := [.lit (.bool false)], args := [d] }
  | _ => none }
def BackoffReachesWrongFalsely : Prop := backoffReachesRow.holds Try.pinned (OpenSpec.ofChange backoffReachesWrong)

/-- 'wakemanlaw30.BackoffLongest': WHATEVER THE INPUT: true; the input reads as it did. -/
def backoffLongestSpec : ChangeSpec := { name := "backoffLongest", fn := fun _ => fun
  | [d1, d2] => { results := [.lit (.bool true)], args := [d1, d2] }
  | _ => none }
def backoffLongestRow : OpenClaim := { program := "ytabgddiecddbhaa", sum := "fa894384372108715419da3bf7a32f4a5092cb9187969724e6905d7bd8569461", func := "wakeman/wakemanlaw30.BackoffLongest", spec := "backoffLongest", unfollowed := true, recurses := true, apart := false }
def BackoffLongestSaid : Prop := backoffLongestRow.holds Try.pinned (OpenSpec.ofChange backoffLongestSpec)

/-- ITS FALSE NEIGHBOUR: 'it returns false'. Refute it at one input. -/
def backoffLongestWrong : ChangeSpec := { name := "backoffLongest", fn := fun _ => fun
  | [d1, d2] => { results := [.lit (.bool false)], args := [d1, d2] }
  | _ => none }
def BackoffLongestWrongFalsely : Prop := backoffLongestRow.holds Try.pinned (OpenSpec.ofChange backoffLongestWrong)

/-- 'wakemanlaw30.BackoffMore': WHATEVER THE INPUT: true; the input reads as it did. -/
def backoffMoreSpec : ChangeSpec := { name := "backoffMore", fn := fun _ => fun
  | [d] => { results := [.lit (.bool true)], args := [d] }
  | _ => none }
def backoffMoreRow : OpenClaim := { program := "ytabgddiecddbhaa", sum := "fa894384372108715419da3bf7a32f4a5092cb9187969724e6905d7bd8569461", func := "wakeman/wakemanlaw30.BackoffMore", spec := "backoffMore", unfollowed := true, recurses := true, apart := false }
def BackoffMoreSaid : Prop := backoffMoreRow.holds Try.pinned (OpenSpec.ofChange backoffMoreSpec)

/-- ITS FALSE NEIGHBOUR: 'it returns false'. Refute it at one input. -/
def backoffMoreWrong : ChangeSpec := { name := "backoffMore", fn := fun _ => fun
  | [d] => { results := [.lit (.bool false)], args := [d] }
  | _ => none }
def BackoffMoreWrongFalsely : Prop := backoffMoreRow.holds Try.pinned (OpenSpec.ofChange backoffMoreWrong)

/- THE SECOND FORM. 'bulk': how many values and letters a reading holds, each counted each time it is reached (what is shared counts as often as it is met; a slice's spare places count too). A statement '..UptoSaid' is the law's where the arguments, and the package variables that the reading takes, are together of bulk at most 1048576: NARROWER than '..Said'. Prove '..Said' where nothing that the law and all that it calls make is longer than what came in: it says more and counts as full. Else prove '..UptoSaid'. A law counts once. -/
mutual
def uptoBulk {H : Type} : DataW H → Nat
  | .lit (.string bytes) => bytes.length + 1
  | .lit _ => 1
  | .nil => 1
  | .ptr d => uptoBulk d + 1
  | .slice elems spare => uptoBulkAll elems + uptoBulkAll spare + 1
  | .agg parts => uptoBulkAll parts + 1
  | .iface _ d => uptoBulk d + 1
  | .map entries => uptoBulkEntries entries + 1
  | .held _ => 1
def uptoBulkAll {H : Type} : List (DataW H) → Nat
  | [] => 0
  | d :: r => uptoBulk d + uptoBulkAll r
def uptoBulkEntries {H : Type} : List (Lit × DataW H) → Nat
  | [] => 0
  | x :: r => uptoBulkEntry x + uptoBulkEntries r
def uptoBulkEntry {H : Type} : Lit × DataW H → Nat
  | (.string bytes, d) => bytes.length + uptoBulk d + 1
  | (_, d) => uptoBulk d + 1
 end
def uptoSmall : (H : Type) → List (DataW H) → Bool := fun _ ds => decide (uptoBulkAll ds ≤ 1048576)
def OpenSpec.upto (s : _root_.Go.ChangeSpec) : _root_.Go.OpenSpec := { _root_.Go.OpenSpec.ofChange s with cond := some uptoSmall }

/-- 'wakemanlaw30.BackoffWaits', WHERE WHAT IT READS IS OF BULK AT MOST 1048576: true; the input reads as it did. -/
def backoffWaitsUptoRow : OpenClaim := { program := "ytabgddiecddbhaa", sum := "fa894384372108715419da3bf7a32f4a5092cb9187969724e6905d7bd8569461", func := "wakeman/wakemanlaw30.BackoffWaits", spec := "backoffWaits", unfollowed := true, recurses := true, apart := false, narrowed := true }
def BackoffWaitsUptoSaid : Prop := backoffWaitsUptoRow.holds Try.pinned (OpenSpec.upto backoffWaitsSpec)

/-- 'wakemanlaw30.BackoffLists', WHERE WHAT IT READS IS OF BULK AT MOST 1048576: true; the input reads as it did. -/
def backoffListsUptoRow : OpenClaim := { program := "ytabgddiecddbhaa", sum := "fa894384372108715419da3bf7a32f4a5092cb9187969724e6905d7bd8569461", func := "wakeman/wakemanlaw30.BackoffLists", spec := "backoffLists", unfollowed := true, recurses := true, apart := false, narrowed := true }
def BackoffListsUptoSaid : Prop := backoffListsUptoRow.holds Try.pinned (OpenSpec.upto backoffListsSpec)

/-- 'wakemanlaw30.BackoffSpans', WHERE WHAT IT READS IS OF BULK AT MOST 1048576: true; the input reads as it did. -/
def backoffSpansUptoRow : OpenClaim := { program := "ytabgddiecddbhaa", sum := "fa894384372108715419da3bf7a32f4a5092cb9187969724e6905d7bd8569461", func := "wakeman/wakemanlaw30.BackoffSpans", spec := "backoffSpans", unfollowed := true, recurses := true, apart := false, narrowed := true }
def BackoffSpansUptoSaid : Prop := backoffSpansUptoRow.holds Try.pinned (OpenSpec.upto backoffSpansSpec)

/-- 'wakemanlaw30.BackoffGrows', WHERE WHAT IT READS IS OF BULK AT MOST 1048576: true; the input reads as it did. -/
def backoffGrowsUptoRow : OpenClaim := { program := "ytabgddiecddbhaa", sum := "fa894384372108715419da3bf7a32f4a5092cb9187969724e6905d7bd8569461", func := "wakeman/wakemanlaw30.BackoffGrows", spec := "backoffGrows", unfollowed := true, recurses := true, apart := false, narrowed := true }
def BackoffGrowsUptoSaid : Prop := backoffGrowsUptoRow.holds Try.pinned (OpenSpec.upto backoffGrowsSpec)

/-- 'wakemanlaw30.BackoffPowers', WHERE WHAT IT READS IS OF BULK AT MOST 1048576: true; the input reads as it did. -/
def backoffPowersUptoRow : OpenClaim := { program := "ytabgddiecddbhaa", sum := "fa894384372108715419da3bf7a32f4a5092cb9187969724e6905d7bd8569461", func := "wakeman/wakemanlaw30.BackoffPowers", spec := "backoffPowers", unfollowed := true, recurses := true, apart := false, narrowed := true }
def BackoffPowersUptoSaid : Prop := backoffPowersUptoRow.holds Try.pinned (OpenSpec.upto backoffPowersSpec)

/-- 'wakemanlaw30.BackoffSums', WHERE WHAT IT READS IS OF BULK AT MOST 1048576: true; the input reads as it did. -/
def backoffSumsUptoRow : OpenClaim := { program := "ytabgddiecddbhaa", sum := "fa894384372108715419da3bf7a32f4a5092cb9187969724e6905d7bd8569461", func := "wakeman/wakemanlaw30.BackoffSums", spec := "backoffSums", unfollowed := true, recurses := true, apart := false, narrowed := true }
def BackoffSumsUptoSaid : Prop := backoffSumsUptoRow.holds Try.pinned (OpenSpec.upto backoffSumsSpec)

/-- 'wakemanlaw30.BackoffReaches', WHERE WHAT IT READS IS OF BULK AT MOST 1048576: true; the input reads as it did. -/
def backoffReachesUptoRow : OpenClaim := { program := "ytabgddiecddbhaa", sum := "fa894384372108715419da3bf7a32f4a5092cb9187969724e6905d7bd8569461", func := "wakeman/wakemanlaw30.BackoffReaches", spec := "backoffReaches", unfollowed := true, recurses := true, apart := false, narrowed := true }
def BackoffReachesUptoSaid : Prop := backoffReachesUptoRow.holds Try.pinned (OpenSpec.upto backoffReachesSpec)

/-- 'wakemanlaw30.BackoffLongest', WHERE WHAT IT READS IS OF BULK AT MOST 1048576: true; the input reads as it did. -/
def backoffLongestUptoRow : OpenClaim := { program := "ytabgddiecddbhaa", sum := "fa894384372108715419da3bf7a32f4a5092cb9187969724e6905d7bd8569461", func := "wakeman/wakemanlaw30.BackoffLongest", spec := "backoffLongest", unfollowed := true, recurses := true, apart := false, narrowed := true }
def BackoffLongestUptoSaid : Prop := backoffLongestUptoRow.holds Try.pinned (OpenSpec.upto backoffLongestSpec)

/-- 'wakemanlaw30.BackoffMore', WHERE WHAT IT READS IS OF BULK AT MOST 1048576: true; the input reads as it did. -/
def backoffMoreUptoRow : OpenClaim := { program := "ytabgddiecddbhaa", sum := "fa894384372108715419da3bf7a32f4a5092cb9187969724e6905d7bd8569461", func := "wakeman/wakemanlaw30.BackoffMore", spec := "backoffMore", unfollowed := true, recurses := true, apart := false, narrowed := true }
def BackoffMoreUptoSaid : Prop := backoffMoreUptoRow.holds Try.pinned (OpenSpec.upto backoffMoreSpec)

end Rows
end Go.Proofs.Ytabgddiecddbhaa
