/-
  No cell of these rows narrows 'for every input' (looked for: loops, veiled, ifaces, maps, wideKeys, modest, calm, conditions, laid).
  DERIVED. THE GIVEN ROWS OF THIS SEAT. 13 by the template 'for every input the law returns true; each argument reads behind the call as it read before'; 0 by the template 'total and deterministic' (their statements: YtgookddningjpaaTotals.lean).
  GIVEN WITH THE SEED: the statements are not yours to turn. If you find one false, say at which input.
  Laid BY PROGRAM, IN A SANDBOX (cutbox-rows.mjs): the forced cells as the released guide's own fill.sh prints them over the translation d3edf2d8053103dc… (all of the seat's roots in one cut). By AI agents, Wed Nov 11 2026. No macro, syntax, notation, axiom, sorry.
-/
import Derived.Test.YtgookddningjpaaChecked
import GoSem.Claim
import GoSem.ClaimJoined
import GoSem.ClaimMapViews
import Derived.JoinedTies
import Derived.KernelRfl
namespace Go.Proofs.Ytgookddningjpaa
/- THE CELL 'sum', in the pinned program and in every row, IS THE sha256 OF THE DUMP (.gsa) THAT YtgookddningjpaaProg.lean LOADS. Nothing in Lean hashes anything: it is a label: what it is worth is what the hold of that sum in a sandbox is worth. -/
noncomputable def Try.pinned : Pinned := { name := "ytgookddningjpaa", sum := "d3edf2d8053103dca0dff2434b49638eeee7f7fd054e4093bd1aadfeb2c6f1c7", checked := Try.checked }
namespace Rows
def none {H : Type} : Left H := { results := [], args := [] }

/-- 'wakemanlaw23.GcraEven': WHATEVER THE INPUT: true; the input reads as it did. -/
def gcraEvenSpec : ChangeSpec := { name := "gcraEven", fn := fun _ => fun
  | [d1, d2, d3] => { results := [.lit (.bool true)], args := [d1, d2, d3] }
  | _ => none }
def gcraEvenRow : OpenClaim := { program := "ytgookddningjpaa", sum := "d3edf2d8053103dca0dff2434b49638eeee7f7fd054e4093bd1aadfeb2c6f1c7", func := "wakeman/wakemanlaw23.GcraEven", spec := "gcraEven", unfollowed := true, recurses := true, apart := false }
def GcraEvenSaid : Prop := gcraEvenRow.holds Try.pinned (OpenSpec.ofChange gcraEvenSpec)

/-- ITS FALSE NEIGHBOUR: 'it returns false'. Refute it at one input. -/
def gcraEvenWrong : ChangeSpec := { name := "gcraEven", fn := fun _ => fun
  | [d1, d2, d3] => { results := [.lit (.bool false)], args := [d1, d2, d3] }
  | _ => none }
def GcraEvenWrongFalsely : Prop := gcraEvenRow.holds Try.pinned (OpenSpec.ofChange gcraEvenWrong)

/-- 'wakemanlaw23.GcraFirst': WHATEVER THE INPUT: true; the input reads as it did. -/
def gcraFirstSpec : ChangeSpec := { name := "gcraFirst", fn := fun _ => fun
  | [d1, d2, d3] => { results := [.lit (.bool true)], args := [d1, d2, d3] }
  | _ => none }
def gcraFirstRow : OpenClaim := { program := "ytgookddningjpaa", sum := "d3edf2d8053103dca0dff2434b49638eeee7f7fd054e4093bd1aadfeb2c6f1c7", func := "wakeman/wakemanlaw23.GcraFirst", spec := "gcraFirst", unfollowed := true, recurses := true, apart := false }
def GcraFirstSaid : Prop := gcraFirstRow.holds Try.pinned (OpenSpec.ofChange gcraFirstSpec)

/-- ITS FALSE NEIGHBOUR: 'it returns false'. Refute it at one input. -/
def gcraFirstWrong : ChangeSpec := { name := "gcraFirst", fn := fun _ => fun
  | [d1, d2, d3] => { results := [.lit (.bool false)], args := [d1, d2, d3] }
  | _ => none }
def GcraFirstWrongFalsely : Prop := gcraFirstRow.holds Try.pinned (OpenSpec.ofChange gcraFirstWrong)

/-- 'wakemanlaw23.GcraRate': WHATEVER THE INPUT: true; the input reads as it did. -/
def gcraRateSpec : ChangeSpec := { name := "gcraRate", fn := fun _ => fun
  | [d1, d2, d3] => { results := [.lit (.bool true)], args := [d1, d2, d3] }
  | _ => none }
def gcraRateRow : OpenClaim := { program := "ytgookddningjpaa", sum := "d3edf2d8053103dca0dff2434b49638eeee7f7fd054e4093bd1aadfeb2c6f1c7", func := "wakeman/wakemanlaw23.GcraRate", spec := "gcraRate", unfollowed := true, recurses := true, apart := false }
def GcraRateSaid : Prop := gcraRateRow.holds Try.pinned (OpenSpec.ofChange gcraRateSpec)

/-- ITS FALSE NEIGHBOUR: 'it returns false'. Refute it at one input. -/
def gcraRateWrong : ChangeSpec := { name := "gcraRate", fn := fun _ => fun
  | [d1, d2, d3] => { results := [.lit (.bool false)], args := [d1, d2, d3] }
  | _ => none }
def GcraRateWrongFalsely : Prop := gcraRateRow.holds Try.pinned (OpenSpec.ofChange gcraRateWrong)

/-- 'wakemanlaw23.GcraBursts': WHATEVER THE INPUT: true; the input reads as it did. -/
def gcraBurstsSpec : ChangeSpec := { name := "gcraBursts", fn := fun _ => fun
  | [d] => { results := [.lit (.bool true)], args := [d] }
  | _ => none }
def gcraBurstsRow : OpenClaim := { program := "ytgookddningjpaa", sum := "d3edf2d8053103dca0dff2434b49638eeee7f7fd054e4093bd1aadfeb2c6f1c7", func := "wakeman/wakemanlaw23.GcraBursts", spec := "gcraBursts", unfollowed := true, recurses := true, apart := false }
def GcraBurstsSaid : Prop := gcraBurstsRow.holds Try.pinned (OpenSpec.ofChange gcraBurstsSpec)

/-- ITS FALSE NEIGHBOUR: 'it returns false'. Refute it at one input. -/
def gcraBurstsWrong : ChangeSpec := { name := "gcraBursts", fn := fun _ => fun
  | [d] => { results := [.lit (.bool false)], args := [d] }
  | _ => none }
def GcraBurstsWrongFalsely : Prop := gcraBurstsRow.holds Try.pinned (OpenSpec.ofChange gcraBurstsWrong)

/-- 'wakemanlaw23.GcraBurst': WHATEVER THE INPUT: true; the input reads as it did. -/
def gcraBurstSpec : ChangeSpec := { name := "gcraBurst", fn := fun _ => fun
  | [d1, d2, d3] => { results := [.lit (.bool true)], args := [d1, d2, d3] }
  | _ => none }
def gcraBurstRow : OpenClaim := { program := "ytgookddningjpaa", sum := "d3edf2d8053103dca0dff2434b49638eeee7f7fd054e4093bd1aadfeb2c6f1c7", func := "wakeman/wakemanlaw23.GcraBurst", spec := "gcraBurst", unfollowed := true, recurses := true, apart := false }
def GcraBurstSaid : Prop := gcraBurstRow.holds Try.pinned (OpenSpec.ofChange gcraBurstSpec)

/-- ITS FALSE NEIGHBOUR: 'it returns false'. Refute it at one input. -/
def gcraBurstWrong : ChangeSpec := { name := "gcraBurst", fn := fun _ => fun
  | [d1, d2, d3] => { results := [.lit (.bool false)], args := [d1, d2, d3] }
  | _ => none }
def GcraBurstWrongFalsely : Prop := gcraBurstRow.holds Try.pinned (OpenSpec.ofChange gcraBurstWrong)

/-- 'wakemanlaw23.GcraEnds': WHATEVER THE INPUT: true; the input reads as it did. -/
def gcraEndsSpec : ChangeSpec := { name := "gcraEnds", fn := fun _ => fun
  | [] => { results := [.lit (.bool true)], args := [] }
  | _ => none }
def gcraEndsRow : OpenClaim := { program := "ytgookddningjpaa", sum := "d3edf2d8053103dca0dff2434b49638eeee7f7fd054e4093bd1aadfeb2c6f1c7", func := "wakeman/wakemanlaw23.GcraEnds", spec := "gcraEnds", unfollowed := true, recurses := true, apart := false }
def GcraEndsSaid : Prop := gcraEndsRow.holds Try.pinned (OpenSpec.ofChange gcraEndsSpec)

/-- ITS FALSE NEIGHBOUR: 'it returns false'. Refute it at one input. -/
def gcraEndsWrong : ChangeSpec := { name := "gcraEnds", fn := fun _ => fun
  | [] => { results := [.lit (.bool false)], args := [] }
  | _ => none }
def GcraEndsWrongFalsely : Prop := gcraEndsRow.holds Try.pinned (OpenSpec.ofChange gcraEndsWrong)

/-- 'wakemanlaw23.GcraNexts': WHATEVER THE INPUT: true; the input reads as it did. -/
def gcraNextsSpec : ChangeSpec := { name := "gcraNexts", fn := fun _ => fun
  | [d1, d2, d3, d4] => { results := [.lit (.bool true)], args := [d1, d2, d3, d4] }
  | _ => none }
def gcraNextsRow : OpenClaim := { program := "ytgookddningjpaa", sum := "d3edf2d8053103dca0dff2434b49638eeee7f7fd054e4093bd1aadfeb2c6f1c7", func := "wakeman/wakemanlaw23.GcraNexts", spec := "gcraNexts", unfollowed := true, recurses := true, apart := false }
def GcraNextsSaid : Prop := gcraNextsRow.holds Try.pinned (OpenSpec.ofChange gcraNextsSpec)

/-- ITS FALSE NEIGHBOUR: 'it returns false'. Refute it at one input. -/
def gcraNextsWrong : ChangeSpec := { name := "gcraNexts", fn := fun _ => fun
  | [d1, d2, d3, d4] => { results := [.lit (.bool false)], args := [d1, d2, d3, d4] }
  | _ => none }
def GcraNextsWrongFalsely : Prop := gcraNextsRow.holds Try.pinned (OpenSpec.ofChange gcraNextsWrong)

/-- 'wakemanlaw23.GcraStays': WHATEVER THE INPUT: true; the input reads as it did. -/
def gcraStaysSpec : ChangeSpec := { name := "gcraStays", fn := fun _ => fun
  | [d1, d2, d3, d4] => { results := [.lit (.bool true)], args := [d1, d2, d3, d4] }
  | _ => none }
def gcraStaysRow : OpenClaim := { program := "ytgookddningjpaa", sum := "d3edf2d8053103dca0dff2434b49638eeee7f7fd054e4093bd1aadfeb2c6f1c7", func := "wakeman/wakemanlaw23.GcraStays", spec := "gcraStays", unfollowed := true, recurses := true, apart := false }
def GcraStaysSaid : Prop := gcraStaysRow.holds Try.pinned (OpenSpec.ofChange gcraStaysSpec)

/-- ITS FALSE NEIGHBOUR: 'it returns false'. Refute it at one input. -/
def gcraStaysWrong : ChangeSpec := { name := "gcraStays", fn := fun _ => fun
  | [d1, d2, d3, d4] => { results := [.lit (.bool false)], args := [d1, d2, d3, d4] }
  | _ => none }
def GcraStaysWrongFalsely : Prop := gcraStaysRow.holds Try.pinned (OpenSpec.ofChange gcraStaysWrong)

/-- 'wakemanlaw23.GcraPlays': WHATEVER THE INPUT: true; the input reads as it did. -/
def gcraPlaysSpec : ChangeSpec := { name := "gcraPlays", fn := fun _ => fun
  | [d1, d2, d3] => { results := [.lit (.bool true)], args := [d1, d2, d3] }
  | _ => none }
def gcraPlaysRow : OpenClaim := { program := "ytgookddningjpaa", sum := "d3edf2d8053103dca0dff2434b49638eeee7f7fd054e4093bd1aadfeb2c6f1c7", func := "wakeman/wakemanlaw23.GcraPlays", spec := "gcraPlays", unfollowed := true, recurses := true, apart := false }
def GcraPlaysSaid : Prop := gcraPlaysRow.holds Try.pinned (OpenSpec.ofChange gcraPlaysSpec)

/-- ITS FALSE NEIGHBOUR: 'it returns false'. Refute it at one input. -/
def gcraPlaysWrong : ChangeSpec := { name := "gcraPlays", fn := fun _ => fun
  | [d1, d2, d3] => { results := [.lit (.bool false)], args := [d1, d2, d3] }
  | _ => none }
def GcraPlaysWrongFalsely : Prop := gcraPlaysRow.holds Try.pinned (OpenSpec.ofChange gcraPlaysWrong)

/-- 'wakemanlaw23.GcraNil': WHATEVER THE INPUT: true; the input reads as it did. -/
def gcraNilSpec : ChangeSpec := { name := "gcraNil", fn := fun _ => fun
  | [d] => { results := [.lit (.bool true)], args := [d] }
  | _ => none }
def gcraNilRow : OpenClaim := { program := "ytgookddningjpaa", sum := "d3edf2d8053103dca0dff2434b49638eeee7f7fd054e4093bd1aadfeb2c6f1c7", func := "wakeman/wakemanlaw23.GcraNil", spec := "gcraNil", unfollowed := true, recurses := true, apart := false }
def GcraNilSaid : Prop := gcraNilRow.holds Try.pinned (OpenSpec.ofChange gcraNilSpec)

/-- ITS FALSE NEIGHBOUR: 'it returns false'. Refute it at one input. -/
def gcraNilWrong : ChangeSpec := { name := "gcraNil", fn := fun _ => fun
  | [d] => { results := [.lit (.bool false)], args := [d] }
  | _ => none }
def GcraNilWrongFalsely : Prop := gcraNilRow.holds Try.pinned (OpenSpec.ofChange gcraNilWrong)

/-- 'wakemanlaw23.GcraAgain': WHATEVER THE INPUT: true; the input reads as it did. -/
def gcraAgainSpec : ChangeSpec := { name := "gcraAgain", fn := fun _ => fun
  | [d1, d2, d3, d4, d5] => { results := [.lit (.bool true)], args := [d1, d2, d3, d4, d5] }
  | _ => none }
def gcraAgainRow : OpenClaim := { program := "ytgookddningjpaa", sum := "d3edf2d8053103dca0dff2434b49638eeee7f7fd054e4093bd1aadfeb2c6f1c7", func := "wakeman/wakemanlaw23.GcraAgain", spec := "gcraAgain", unfollowed := true, recurses := true, apart := false }
def GcraAgainSaid : Prop := gcraAgainRow.holds Try.pinned (OpenSpec.ofChange gcraAgainSpec)

/-- ITS FALSE NEIGHBOUR: 'it returns false'. Refute it at one input. -/
def gcraAgainWrong : ChangeSpec := { name := "gcraAgain", fn := fun _ => fun
  | [d1, d2, d3, d4, d5] => { results := [.lit (.bool false)], args := [d1, d2, d3, d4, d5] }
  | _ => none }
def GcraAgainWrongFalsely : Prop := gcraAgainRow.holds Try.pinned (OpenSpec.ofChange gcraAgainWrong)

/-- 'wakemanlaw23.GcraRestores': WHATEVER THE INPUT: true; the input reads as it did. -/
def gcraRestoresSpec : ChangeSpec := { name := "gcraRestores", fn := fun _ => fun
  | [d1, d2, d3, d4] => { results := [.lit (.bool true)], args := [d1, d2, d3, d4] }
  | _ => none }
def gcraRestoresRow : OpenClaim := { program := "ytgookddningjpaa", sum := "d3edf2d8053103dca0dff2434b49638eeee7f7fd054e4093bd1aadfeb2c6f1c7", func := "wakeman/wakemanlaw23.GcraRestores", spec := "gcraRestores", unfollowed := true, recurses := true, apart := false }
def GcraRestoresSaid : Prop := gcraRestoresRow.holds Try.pinned (OpenSpec.ofChange gcraRestoresSpec)

/-- ITS FALSE NEIGHBOUR: 'it returns false'. Refute it at one input. -/
def gcraRestoresWrong : ChangeSpec := { name := "gcraRestores", fn := fun _ => fun
  | [d1, d2, d3, d4] => { results := [.lit (.bool false)], args := [d1, d2, d3, d4] }
  | _ => none }
def GcraRestoresWrongFalsely : Prop := gcraRestoresRow.holds Try.pinned (OpenSpec.ofChange gcraRestoresWrong)

/-- 'wakemanlaw23.GcraFits': WHATEVER THE INPUT: true; the input reads as it did. -/
def gcraFitsSpec : ChangeSpec := { name := "gcraFits", fn := fun _ => fun
  | [d1, d2, d3] => { results := [.lit (.bool true)], args := [d1, d2, d3] }
  | _ => none }
def gcraFitsRow : OpenClaim := { program := "ytgookddningjpaa", sum := "d3edf2d8053103dca0dff2434b49638eeee7f7fd054e4093bd1aadfeb2c6f1c7", func := "wakeman/wakemanlaw23.GcraFits", spec := "gcraFits", unfollowed := true, recurses := true, apart := false }
def GcraFitsSaid : Prop := gcraFitsRow.holds Try.pinned (OpenSpec.ofChange gcraFitsSpec)

/-- ITS FALSE NEIGHBOUR: 'it returns false'. Refute it at one input. -/
def gcraFitsWrong : ChangeSpec := { name := "gcraFits", fn := fun _ => fun
  | [d1, d2, d3] => { results := [.lit (.bool false)], args := [d1, d2, d3] }
  | _ => none }
def GcraFitsWrongFalsely : Prop := gcraFitsRow.holds Try.pinned (OpenSpec.ofChange gcraFitsWrong)

/- THE SECOND FORM. 'bulk': how many values and letters a reading holds, each counted each time it is reached (what is shared counts as often as it is met; a slice's spare places count too). A statement '..UptoSaid' is the law's where the arguments, and the package variables that the reading takes, are together of bulk at most 1048576: NARROWER than '..Said'. Prove '..Said' where nothing that the law and all that it calls make is longer than what came in: it says more and counts as full. Else prove '..UptoSaid'. A law counts once. -/
mutual
def uptoBulk {H : Type} : DataW H → Nat
  | .lit (.string bytes) => bytes.length + 1
  | .lit _ => 1
  | .nil => 1
  | .ptr d => uptoBulk d + 1
  | .slice elems spare => uptoBulkAll elems + uptoBulkAll spare + 1
  | .agg parts => uptoBulkAll parts + 1
  | .iface _ d => uptoBulk d + 1
  | .map entries => uptoBulkEntries entries + 1
  | .held _ => 1
def uptoBulkAll {H : Type} : List (DataW H) → Nat
  | [] => 0
  | d :: r => uptoBulk d + uptoBulkAll r
def uptoBulkEntries {H : Type} : List (Lit × DataW H) → Nat
  | [] => 0
  | x :: r => uptoBulkEntry x + uptoBulkEntries r
def uptoBulkEntry {H : Type} : Lit × DataW H → Nat
  | (.string bytes, d) => bytes.length + uptoBulk d + 1
  | (_, d) => uptoBulk d + 1
 end
def uptoSmall : (H : Type) → List (DataW H) → Bool := fun _ ds => decide (uptoBulkAll ds ≤ 1048576)
def OpenSpec.upto (s : _root_.Go.ChangeSpec) : _root_.Go.OpenSpec := { _root_.Go.OpenSpec.ofChange s with cond := some uptoSmall }

/-- 'wakemanlaw23.GcraEven', WHERE WHAT IT READS IS OF BULK AT MOST 1048576: true; the input reads as it did. -/
def gcraEvenUptoRow : OpenClaim := { program := "ytgookddningjpaa", sum := "d3edf2d8053103dca0dff2434b49638eeee7f7fd054e4093bd1aadfeb2c6f1c7", func := "wakeman/wakemanlaw23.GcraEven", spec := "gcraEven", unfollowed := true, recurses := true, apart := false, narrowed := true }
def GcraEvenUptoSaid : Prop := gcraEvenUptoRow.holds Try.pinned (OpenSpec.upto gcraEvenSpec)

/-- 'wakemanlaw23.GcraFirst', WHERE WHAT IT READS IS OF BULK AT MOST 1048576: true; the input reads as it did. -/
def gcraFirstUptoRow : OpenClaim := { program := "ytgookddningjpaa", sum := "d3edf2d8053103dca0dff2434b49638eeee7f7fd054e4093bd1aadfeb2c6f1c7", func := "wakeman/wakemanlaw23.GcraFirst", spec := "gcraFirst", unfollowed := true, recurses := true, apart := false, narrowed := true }
def GcraFirstUptoSaid : Prop := gcraFirstUptoRow.holds Try.pinned (OpenSpec.upto gcraFirstSpec)

/-- 'wakemanlaw23.GcraRate', WHERE WHAT IT READS IS OF BULK AT MOST 1048576: true; the input reads as it did. -/
def gcraRateUptoRow : OpenClaim := { program := "ytgookddningjpaa", sum := "d3edf2d8053103dca0dff2434b49638eeee7f7fd054e4093bd1aadfeb2c6f1c7", func := "wakeman/wakemanlaw23.GcraRate", spec := "gcraRate", unfollowed := true, recurses := true, apart := false, narrowed := true }
def GcraRateUptoSaid : Prop := gcraRateUptoRow.holds Try.pinned (OpenSpec.upto gcraRateSpec)

/-- 'wakemanlaw23.GcraBursts', WHERE WHAT IT READS IS OF BULK AT MOST 1048576: true; the input reads as it did. -/
def gcraBurstsUptoRow : OpenClaim := { program := "ytgookddningjpaa", sum := "d3edf2d8053103dca0dff2434b49638eeee7f7fd054e4093bd1aadfeb2c6f1c7", func := "wakeman/wakemanlaw23.GcraBursts", spec := "gcraBursts", unfollowed := true, recurses := true, apart := false, narrowed := true }
def GcraBurstsUptoSaid : Prop := gcraBurstsUptoRow.holds Try.pinned (OpenSpec.upto gcraBurstsSpec)

/-- 'wakemanlaw23.GcraBurst', WHERE WHAT IT READS IS OF BULK AT MOST 1048576: true; the input reads as it did. -/
def gcraBurstUptoRow : OpenClaim := { program := "ytgookddningjpaa", sum := "d3edf2d8053103dca0dff2434b49638eeee7f7fd054e4093bd1aadfeb2c6f1c7", func := "wakeman/wakemanlaw23.GcraBurst", spec := "gcraBurst", unfollowed := true, recurses := true, apart := false, narrowed := true }
def GcraBurstUptoSaid : Prop := gcraBurstUptoRow.holds Try.pinned (OpenSpec.upto gcraBurstSpec)

/-- 'wakemanlaw23.GcraEnds', WHERE WHAT IT READS IS OF BULK AT MOST 1048576: true; the input reads as it did. -/
def gcraEndsUptoRow : OpenClaim := { program := "ytgookddningjpaa", sum := "d3edf2d8053103dca0dff2434b49638eeee7f7fd054e4093bd1aadfeb2c6f1c7", func := "wakeman/wakemanlaw23.GcraEnds", spec := "gcraEnds", unfollowed := true, recurses := true, apart := false, narrowed := true }
def GcraEndsUptoSaid : Prop := gcraEndsUptoRow.holds Try.pinned (OpenSpec.upto gcraEndsSpec)

/-- 'wakemanlaw23.GcraNexts', WHERE WHAT IT READS IS OF BULK AT MOST 1048576: true; the input reads as it did. -/
def gcraNextsUptoRow : OpenClaim := { program := "ytgookddningjpaa", sum := "d3edf2d8053103dca0dff2434b49638eeee7f7fd054e4093bd1aadfeb2c6f1c7", func := "wakeman/wakemanlaw23.GcraNexts", spec := "gcraNexts", unfollowed := true, recurses := true, apart := false, narrowed := true }
def GcraNextsUptoSaid : Prop := gcraNextsUptoRow.holds Try.pinned (OpenSpec.upto gcraNextsSpec)

/-- 'wakemanlaw23.GcraStays', WHERE WHAT IT READS IS OF BULK AT MOST 1048576: true; the input reads as it did. -/
def gcraStaysUptoRow : OpenClaim := { program := "ytgookddningjpaa", sum := "d3edf2d8053103dca0dff2434b49638eeee7f7fd054e4093bd1aadfeb2c6f1c7", func := "wakeman/wakemanlaw23.GcraStays", spec := "gcraStays", unfollowed := true, recurses := true, apart := false, narrowed := true }
def GcraStaysUptoSaid : Prop := gcraStaysUptoRow.holds Try.pinned (OpenSpec.upto gcraStaysSpec)

/-- 'wakemanlaw23.GcraPlays', WHERE WHAT IT READS IS OF BULK AT MOST 1048576: true; the input reads as it did. -/
def gcraPlaysUptoRow : OpenClaim := { program := "ytgookddningjpaa", sum := "d3edf2d8053103dca0dff2434b49638eeee7f7fd054e4093bd1aadfeb2c6f1c7", func := "wakeman/wakemanlaw23.GcraPlays", spec := "gcraPlays", unfollowed := true, recurses := true, apart := false, narrowed := true }
def GcraPlaysUptoSaid : Prop := gcraPlaysUptoRow.holds Try.pinned (OpenSpec.upto gcraPlaysSpec)

/-- 'wakemanlaw23.GcraNil', WHERE WHAT IT READS IS OF BULK AT MOST 1048576: true; the input reads as it did. -/
def gcraNilUptoRow : OpenClaim := { program := "ytgookddningjpaa", sum := "d3edf2d8053103dca0dff2434b49638eeee7f7fd054e4093bd1aadfeb2c6f1c7", func := "wakeman/wakemanlaw23.GcraNil", spec := "gcraNil", unfollowed := true, recurses := true, apart := false, narrowed := true }
def GcraNilUptoSaid : Prop := gcraNilUptoRow.holds Try.pinned (OpenSpec.upto gcraNilSpec)

/-- 'wakemanlaw23.GcraAgain', WHERE WHAT IT READS IS OF BULK AT MOST 1048576: true; the input reads as it did. -/
def gcraAgainUptoRow : OpenClaim := { program := "ytgookddningjpaa", sum := "d3edf2d8053103dca0dff2434b49638eeee7f7fd054e4093bd1aadfeb2c6f1c7", func := "wakeman/wakemanlaw23.GcraAgain", spec := "gcraAgain", unfollowed := true, recurses := true, apart := false, narrowed := true }
def GcraAgainUptoSaid : Prop := gcraAgainUptoRow.holds Try.pinned (OpenSpec.upto gcraAgainSpec)

/-- 'wakemanlaw23.GcraRestores', WHERE WHAT IT READS IS OF BULK AT MOST 1048576: true; the input reads as it did. -/
def gcraRestoresUptoRow : OpenClaim := { program := "ytgookddningjpaa", sum := "d3edf2d8053103dca0dff2434b49638eeee7f7fd054e4093bd1aadfeb2c6f1c7", func := "wakeman/wakemanlaw23.GcraRestores", spec := "gcraRestores", unfollowed := true, recurses := true, apart := false, narrowed := true }
def GcraRestoresUptoSaid : Prop := gcraRestoresUptoRow.holds Try.pinned (OpenSpec.upto gcraRestoresSpec)

/-- 'wakemanlaw23.GcraFits', WHERE WHAT IT READS IS OF BULK AT MOST 1048576: true; the input reads as it did. -/
def gcraFitsUptoRow : OpenClaim := { program := "ytgookddningjpaa", sum := "d3edf2d8053103dca0dff2434b49638eeee7f7fd054e4093bd1aadfeb2c6f1c7", func := "wakeman/wakemanlaw23.GcraFits", spec := "gcraFits", unfollowed := true, recurses := true, apart := false, narrowed := true }
def GcraFitsUptoSaid : Prop := gcraFitsUptoRow.holds Try.pinned (OpenSpec.upto gcraFitsSpec)

end Rows
end Go.Proofs.Ytgookddningjpaa
