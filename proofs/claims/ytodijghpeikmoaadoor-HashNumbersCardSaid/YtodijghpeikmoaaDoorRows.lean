/-
  NARROWER THAN 'FOR EVERY INPUT', by the rows' own cells (each row's printed sentence says how): HashSplays: laid · HashBuckets: laid · HashParts: laid · HashBytes: laid · HashNumbers: laid · HashRanges: laid · HashCounts: laid · HashKnown: laid · HashSums: laid · HashKeys: laid.
  DERIVED. THE GIVEN ROWS OF THIS SEAT. 10 by the template 'for every input the law returns true; each argument reads behind the call as it read before'; 0 by the template 'total and deterministic' (their statements: YtodijghpeikmoaaDoorTotals.lean).
  GIVEN WITH THE SEED: the statements are not yours to turn. If you find one false, say at which input.
  Laid BY PROGRAM, IN A SANDBOX (cutbox-rows.mjs): the forced cells as the released guide's own fill.sh prints them over the translation 3f677720cd372038… (all of the seat's roots in one cut). By AI agents, Wed Nov 11 2026. No macro, syntax, notation, axiom, sorry.
-/
import Derived.Test.YtodijghpeikmoaaDoorChecked
import GoSem.Claim
import GoSem.ClaimJoined
import GoSem.ClaimMapViews
import Derived.JoinedTies
import Derived.KernelRfl
namespace Go.Proofs.YtodijghpeikmoaaDoor
/- THE CELL 'sum', in the pinned program and in every row, IS THE sha256 OF THE DUMP (.gsa) THAT YtodijghpeikmoaaDoorProg.lean LOADS. Nothing in Lean hashes anything: it is a label: what it is worth is what the hold of that sum in a sandbox is worth. -/
noncomputable def Tryd.pinned : Pinned := { name := "ytodijghpeikmoaadoor", sum := "3f677720cd372038c6ac8b9694fdcf545486a1b5e54bed7948040407ab78efda", checked := Tryd.checked }
namespace Rows
def none {H : Type} : Left H := { results := [], args := [] }

/- WHAT THE LISTED PACKAGE-LEVEL VARIABLES READ AS WHEN THE CALL BEGINS. Each datum BY PROGRAM (the guide's laid-datum.mjs) off the statement by which the dump's own 'gosem.cut.vars' lays the variable. In a bare row this is a premise. The card (YtodijghpeikmoaaDoorCards.lean) ties it to the program's text. -/
def laid_wakeman_mix_steps {H : Type} : DataW H := .agg [.agg [.lit (.int .i64 30), .lit (.int .u64 13787848793156543929)], .agg [.lit (.int .i64 27), .lit (.int .u64 10723151780598845931)], .agg [.lit (.int .i64 31), .lit (.int .u64 1)]]

/-- 'wakemanlaw28.HashSplays': WHATEVER THE INPUT: true; the input reads as it did. -/
def hashSplaysSpec : ChangeSpec := { name := "hashSplays", fn := fun _ => fun
  | [d1, d2, d3] => { results := [.lit (.bool true)], args := [d1, d2, d3] }
  | _ => none }
def hashSplaysRow : OpenClaim := { program := "ytodijghpeikmoaadoor", sum := "3f677720cd372038c6ac8b9694fdcf545486a1b5e54bed7948040407ab78efda", func := "wakeman/wakemanlaw28.HashSplays", spec := "hashSplays", unfollowed := true, recurses := true, named := ["wakeman/mix.steps"], apart := false, laid := [("wakeman/mix.steps", laid_wakeman_mix_steps)] }
def HashSplaysSaid : Prop := hashSplaysRow.holds Tryd.pinned (OpenSpec.ofChange hashSplaysSpec)

/-- ITS FALSE NEIGHBOUR: 'it returns false'. Refute it at one input. -/
def hashSplaysWrong : ChangeSpec := { name := "hashSplays", fn := fun _ => fun
  | [d1, d2, d3] => { results := [.lit (.bool false)], args := [d1, d2, d3] }
  | _ => none }
def HashSplaysWrongFalsely : Prop := hashSplaysRow.holds Tryd.pinned (OpenSpec.ofChange hashSplaysWrong)

/-- 'wakemanlaw28.HashBuckets': WHATEVER THE INPUT: true; the input reads as it did. -/
def hashBucketsSpec : ChangeSpec := { name := "hashBuckets", fn := fun _ => fun
  | [d1, d2, d3] => { results := [.lit (.bool true)], args := [d1, d2, d3] }
  | _ => none }
def hashBucketsRow : OpenClaim := { program := "ytodijghpeikmoaadoor", sum := "3f677720cd372038c6ac8b9694fdcf545486a1b5e54bed7948040407ab78efda", func := "wakeman/wakemanlaw28.HashBuckets", spec := "hashBuckets", unfollowed := true, recurses := true, named := ["wakeman/mix.steps"], apart := false, laid := [("wakeman/mix.steps", laid_wakeman_mix_steps)] }
def HashBucketsSaid : Prop := hashBucketsRow.holds Tryd.pinned (OpenSpec.ofChange hashBucketsSpec)

/-- ITS FALSE NEIGHBOUR: 'it returns false'. Refute it at one input. -/
def hashBucketsWrong : ChangeSpec := { name := "hashBuckets", fn := fun _ => fun
  | [d1, d2, d3] => { results := [.lit (.bool false)], args := [d1, d2, d3] }
  | _ => none }
def HashBucketsWrongFalsely : Prop := hashBucketsRow.holds Tryd.pinned (OpenSpec.ofChange hashBucketsWrong)

/-- 'wakemanlaw28.HashParts': WHATEVER THE INPUT: true; the input reads as it did. -/
def hashPartsSpec : ChangeSpec := { name := "hashParts", fn := fun _ => fun
  | [d1, d2, d3] => { results := [.lit (.bool true)], args := [d1, d2, d3] }
  | _ => none }
def hashPartsRow : OpenClaim := { program := "ytodijghpeikmoaadoor", sum := "3f677720cd372038c6ac8b9694fdcf545486a1b5e54bed7948040407ab78efda", func := "wakeman/wakemanlaw28.HashParts", spec := "hashParts", unfollowed := true, recurses := true, named := ["wakeman/mix.steps"], apart := false, laid := [("wakeman/mix.steps", laid_wakeman_mix_steps)] }
def HashPartsSaid : Prop := hashPartsRow.holds Tryd.pinned (OpenSpec.ofChange hashPartsSpec)

/-- ITS FALSE NEIGHBOUR: 'it returns false'. Refute it at one input. -/
def hashPartsWrong : ChangeSpec := { name := "hashParts", fn := fun _ => fun
  | [d1, d2, d3] => { results := [.lit (.bool false)], args := [d1, d2, d3] }
  | _ => none }
def HashPartsWrongFalsely : Prop := hashPartsRow.holds Tryd.pinned (OpenSpec.ofChange hashPartsWrong)

/-- 'wakemanlaw28.HashBytes': WHATEVER THE INPUT: true; the input reads as it did. -/
def hashBytesSpec : ChangeSpec := { name := "hashBytes", fn := fun _ => fun
  | [d1, d2, d3] => { results := [.lit (.bool true)], args := [d1, d2, d3] }
  | _ => none }
def hashBytesRow : OpenClaim := { program := "ytodijghpeikmoaadoor", sum := "3f677720cd372038c6ac8b9694fdcf545486a1b5e54bed7948040407ab78efda", func := "wakeman/wakemanlaw28.HashBytes", spec := "hashBytes", unfollowed := true, recurses := true, named := ["wakeman/mix.steps"], apart := false, laid := [("wakeman/mix.steps", laid_wakeman_mix_steps)] }
def HashBytesSaid : Prop := hashBytesRow.holds Tryd.pinned (OpenSpec.ofChange hashBytesSpec)

/-- ITS FALSE NEIGHBOUR: 'it returns false'. Refute it at one input. -/
def hashBytesWrong : ChangeSpec := { name := "hashBytes", fn := fun _ => fun
  | [d1, d2, d3] => { results := [.lit (.bool false)], args := [d1, d2, d3] }
  | _ => none }
def HashBytesWrongFalsely : Prop := hashBytesRow.holds Tryd.pinned (OpenSpec.ofChange hashBytesWrong)

/-- 'wakemanlaw28.HashNumbers': WHATEVER THE INPUT: true; the input reads as it did. -/
def hashNumbersSpec : ChangeSpec := { name := "hashNumbers", fn := fun _ => fun
  | [d1, d2, d3, d4] => { results := [.lit (.bool true)], args := [d1, d2, d3, d4] }
  | _ => none }
def hashNumbersRow : OpenClaim := { program := "ytodijghpeikmoaadoor", sum := "3f677720cd372038c6ac8b9694fdcf545486a1b5e54bed7948040407ab78efda", func := "wakeman/wakemanlaw28.HashNumbers", spec := "hashNumbers", unfollowed := true, recurses := true, named := ["wakeman/mix.steps"], apart := false, laid := [("wakeman/mix.steps", laid_wakeman_mix_steps)] }
def HashNumbersSaid : Prop := hashNumbersRow.holds Tryd.pinned (OpenSpec.ofChange hashNumbersSpec)

/-- ITS FALSE NEIGHBOUR: 'it returns false'. Refute it at one input. -/
def hashNumbersWrong : ChangeSpec := { name := "hashNumbers", fn := fun _ => fun
  | [d1, d2, d3, d4] => { results := [.lit (.bool false)], args := [d1, d2, d3, d4] }
  | _ => none }
def HashNumbersWrongFalsely : Prop := hashNumbersRow.holds Tryd.pinned (OpenSpec.ofChange hashNumbersWrong)

/-- 'wakemanlaw28.HashRanges': WHATEVER THE INPUT: true; the input reads as it did. -/
def hashRangesSpec : ChangeSpec := { name := "hashRanges", fn := fun _ => fun
  | [d1, d2, d3] => { results := [.lit (.bool true)], args := [d1, d2, d3] }
  | _ => none }
def hashRangesRow : OpenClaim := { program := "ytodijghpeikmoaadoor", sum := "3f677720cd372038c6ac8b9694fdcf545486a1b5e54bed7948040407ab78efda", func := "wakeman/wakemanlaw28.HashRanges", spec := "hashRanges", unfollowed := true, recurses := true, named := ["wakeman/mix.steps"], apart := false, laid := [("wakeman/mix.steps", laid_wakeman_mix_steps)] }
def HashRangesSaid : Prop := hashRangesRow.holds Tryd.pinned (OpenSpec.ofChange hashRangesSpec)

/-- ITS FALSE NEIGHBOUR: 'it returns false'. Refute it at one input. -/
def hashRangesWrong : ChangeSpec := { name := "hashRanges", fn := fun _ => fun
  | [d1, d2, d3] => { results := [.lit (.bool false)], args := [d1, d2, d3] }
  | _ => none }
def HashRangesWrongFalsely : Prop := hashRangesRow.holds Tryd.pinned (OpenSpec.ofChange hashRangesWrong)

/-- 'wakemanlaw28.HashCounts': WHATEVER THE INPUT: true; the input reads as it did. -/
def hashCountsSpec : ChangeSpec := { name := "hashCounts", fn := fun _ => fun
  | [d1, d2, d3] => { results := [.lit (.bool true)], args := [d1, d2, d3] }
  | _ => none }
def hashCountsRow : OpenClaim := { program := "ytodijghpeikmoaadoor", sum := "3f677720cd372038c6ac8b9694fdcf545486a1b5e54bed7948040407ab78efda", func := "wakeman/wakemanlaw28.HashCounts", spec := "hashCounts", unfollowed := true, recurses := true, named := ["wakeman/mix.steps"], apart := false, laid := [("wakeman/mix.steps", laid_wakeman_mix_steps)] }
def HashCountsSaid : Prop := hashCountsRow.holds Tryd.pinned (OpenSpec.ofChange hashCountsSpec)

/-- ITS FALSE NEIGHBOUR: 'it returns false'. Refute it at one input. -/
def hashCountsWrong : ChangeSpec := { name := "hashCounts", fn := fun _ => fun
  | [d1, d2, d3] => { results := [.lit (.bool false)], args := [d1, d2, d3] }
  | _ => none }
def HashCountsWrongFalsely : Prop := hashCountsRow.holds Tryd.pinned (OpenSpec.ofChange hashCountsWrong)

/-- 'wakemanlaw28.HashKnown': WHATEVER THE INPUT: true; the input reads as it did. -/
def hashKnownSpec : ChangeSpec := { name := "hashKnown", fn := fun _ => fun
  | [] => { results := [.lit (.bool true)], args := [] }
  | _ => none }
def hashKnownRow : OpenClaim := { program := "ytodijghpeikmoaadoor", sum := "3f677720cd372038c6ac8b9694fdcf545486a1b5e54bed7948040407ab78efda", func := "wakeman/wakemanlaw28.HashKnown", spec := "hashKnown", unfollowed := true, recurses := true, named := ["wakeman/mix.steps"], apart := false, laid := [("wakeman/mix.steps", laid_wakeman_mix_steps)] }
def HashKnownSaid : Prop := hashKnownRow.holds Tryd.pinned (OpenSpec.ofChange hashKnownSpec)

/-- ITS FALSE NEIGHBOUR: 'it returns false'. Refute it at one input. -/
def hashKnownWrong : ChangeSpec := { name := "hashKnown", fn := fun _ => fun
  | [] => { results := [.lit (.bool false)], args := [] }
  | _ => none }
def HashKnownWrongFalsely : Prop := hashKnownRow.holds Tryd.pinned (OpenSpec.ofChange hashKnownWrong)

/-- 'wakemanlaw28.HashSums': WHATEVER THE INPUT: true; the input reads as it did. -/
def hashSumsSpec : ChangeSpec := { name := "hashSums", fn := fun _ => fun
  | [d1, d2, d3, d4] => { results := [.lit (.bool true)], args := [d1, d2, d3, d4] }
  | _ => none }
def hashSumsRow : OpenClaim := { program := "ytodijghpeikmoaadoor", sum := "3f677720cd372038c6ac8b9694fdcf545486a1b5e54bed7948040407ab78efda", func := "wakeman/wakemanlaw28.HashSums", spec := "hashSums", unfollowed := true, recurses := true, named := ["wakeman/mix.steps"], apart := false, laid := [("wakeman/mix.steps", laid_wakeman_mix_steps)] }
def HashSumsSaid : Prop := hashSumsRow.holds Tryd.pinned (OpenSpec.ofChange hashSumsSpec)

/-- ITS FALSE NEIGHBOUR: 'it returns false'. Refute it at one input. -/
def hashSumsWrong : ChangeSpec := { name := "hashSums", fn := fun _ => fun
  | [d1, d2, d3, d4] => { results := [.lit (.bool false)], args := [d1, d2, d3, d4] }
  | _ => none }
def HashSumsWrongFalsely : Prop := hashSumsRow.holds Tryd.pinned (OpenSpec.ofChange hashSumsWrong)

/-- 'wakemanlaw28.HashKeys': WHATEVER THE INPUT: true; the input reads as it did. -/
def hashKeysSpec : ChangeSpec := { name := "hashKeys", fn := fun _ => fun
  | [d1, d2, d3, d4] => { results := [.lit (.bool true)], args := [d1, d2, d3, d4] }
  | _ => none }
def hashKeysRow : OpenClaim := { program := "ytodijghpeikmoaadoor", sum := "3f677720cd372038c6ac8b9694fdcf545486a1b5e54bed7948040407ab78efda", func := "wakeman/wakemanlaw28.HashKeys", spec := "hashKeys", unfollowed := true, recurses := true, named := ["wakeman/mix.steps"], apart := false, laid := [("wakeman/mix.steps", laid_wakeman_mix_steps)] }
def HashKeysSaid : Prop := hashKeysRow.holds Tryd.pinned (OpenSpec.ofChange hashKeysSpec)

/-- ITS FALSE NEIGHBOUR: 'it returns false'. Refute it at one input. -/
def hashKeysWrong : ChangeSpec := { name := "hashKeys", fn := fun _ => fun
  | [d1, d2, d3, d4] => { results := [.lit (.bool false)], args := [d1, d2, d3, d4] }
  | _ => none }
def HashKeysWrongFalsely : Prop := hashKeysRow.holds Tryd.pinned (OpenSpec.ofChange hashKeysWrong)

/- THE SECOND FORM. 'bulk': how many values and letters a reading holds, each counted each time it is reached (what is shared counts as often as it is met; a slice's spare places count too). A statement '..UptoSaid' is the law's where the arguments, and the package variables that the reading takes, are together of bulk at most 1048576: NARROWER than '..Said'. Prove '..Said' where nothing that the law and all that it calls make is longer than what came in: it says more and counts as full. Else prove '..UptoSaid'. A law counts once. -/
mutual
def uptoBulk {H : Type} : DataW H → Nat
  | .lit (.string bytes) => bytes.length + 1
  | .lit _ => 1
  | .nil => 1
  | .ptr d => uptoBulk d + 1
  | .slice elems spare => uptoBulkAll elems + uptoBulkAll spare + 1
  | .agg parts => uptoBulkAll parts + 1
  | .iface _ d => uptoBulk d + 1
  | .map entries => uptoBulkEntries entries + 1
  | .held _ => 1
def uptoBulkAll {H : Type} : List (DataW H) → Nat
  | [] => 0
  | d :: r => uptoBulk d + uptoBulkAll r
def uptoBulkEntries {H : Type} : List (Lit × DataW H) → Nat
  | [] => 0
  | x :: r => uptoBulkEntry x + uptoBulkEntries r
def uptoBulkEntry {H : Type} : Lit × DataW H → Nat
  | (.string bytes, d) => bytes.length + uptoBulk d + 1
  | (_, d) => uptoBulk d + 1
 end
def uptoSmall : (H : Type) → List (DataW H) → Bool := fun _ ds => decide (uptoBulkAll ds ≤ 1048576)
def OpenSpec.upto (s : _root_.Go.ChangeSpec) : _root_.Go.OpenSpec := { _root_.Go.OpenSpec.ofChange s with cond := some uptoSmall }

/-- 'wakemanlaw28.HashSplays', WHERE WHAT IT READS IS OF BULK AT MOST 1048576: true; the input reads as it did. -/
def hashSplaysUptoRow : OpenClaim := { program := "ytodijghpeikmoaadoor", sum := "3f677720cd372038c6ac8b9694fdcf545486a1b5e54bed7948040407ab78efda", func := "wakeman/wakemanlaw28.HashSplays", spec := "hashSplays", unfollowed := true, recurses := true, named := ["wakeman/mix.steps"], apart := false, laid := [("wakeman/mix.steps", laid_wakeman_mix_steps)], narrowed := true }
def HashSplaysUptoSaid : Prop := hashSplaysUptoRow.holds Tryd.pinned (OpenSpec.upto hashSplaysSpec)

/-- 'wakemanlaw28.HashBuckets', WHERE WHAT IT READS IS OF BULK AT MOST 1048576: true; the input reads as it did. -/
def hashBucketsUptoRow : OpenClaim := { program := "ytodijghpeikmoaadoor", sum := "3f677720cd372038c6ac8b9694fdcf545486a1b5e54bed7948040407ab78efda", func := "wakeman/wakemanlaw28.HashBuckets", spec := "hashBuckets", unfollowed := true, recurses := true, named := ["wakeman/mix.steps"], apart := false, laid := [("wakeman/mix.steps", laid_wakeman_mix_steps)], narrowed := true }
def HashBucketsUptoSaid : Prop := hashBucketsUptoRow.holds Tryd.pinned (OpenSpec.upto hashBucketsSpec)

/-- 'wakemanlaw28.HashParts', WHERE WHAT IT READS IS OF BULK AT MOST 1048576: true; the input reads as it did. -/
def hashPartsUptoRow : OpenClaim := { program := "ytodijghpeikmoaadoor", sum := "3f677720cd372038c6ac8b9694fdcf545486a1b5e54bed7948040407ab78efda", func := "wakeman/wakemanlaw28.HashParts", spec := "hashParts", unfollowed := true, recurses := true, named := ["wakeman/mix.steps"], apart := false, laid := [("wakeman/mix.steps", laid_wakeman_mix_steps)], narrowed := true }
def HashPartsUptoSaid : Prop := hashPartsUptoRow.holds Tryd.pinned (OpenSpec.upto hashPartsSpec)

/-- 'wakemanlaw28.HashBytes', WHERE WHAT IT READS IS OF BULK AT MOST 1048576: true; the input reads as it did. -/
def hashBytesUptoRow : OpenClaim := { program := "ytodijghpeikmoaadoor", sum := "3f677720cd372038c6ac8b9694fdcf545486a1b5e54bed7948040407ab78efda", func := "wakeman/wakemanlaw28.HashBytes", spec := "hashBytes", unfollowed := true, recurses := true, named := ["wakeman/mix.steps"], apart := false, laid := [("wakeman/mix.steps", laid_wakeman_mix_steps)], narrowed := true }
def HashBytesUptoSaid : Prop := hashBytesUptoRow.holds Tryd.pinned (OpenSpec.upto hashBytesSpec)

/-- 'wakemanlaw28.HashNumbers', WHERE WHAT IT READS IS OF BULK AT MOST 1048576: true; the input reads as it did. -/
def hashNumbersUptoRow : OpenClaim := { program := "ytodijghpeikmoaadoor", sum := "3f677720cd372038c6ac8b9694fdcf545486a1b5e54bed7948040407ab78efda", func := "wakeman/wakemanlaw28.HashNumbers", spec := "hashNumbers", unfollowed := true, recurses := true, named := ["wakeman/mix.steps"], apart := false, laid := [("wakeman/mix.steps", laid_wakeman_mix_steps)], narrowed := true }
def HashNumbersUptoSaid : Prop := hashNumbersUptoRow.holds Tryd.pinned (OpenSpec.upto hashNumbersSpec)

/-- 'wakemanlaw28.HashRanges', WHERE WHAT IT READS IS OF BULK AT MOST 1048576: true; the input reads as it did. -/
def hashRangesUptoRow : OpenClaim := { program := "ytodijghpeikmoaadoor", sum := "3f677720cd372038c6ac8b9694fdcf545486a1b5e54bed7948040407ab78efda", func := "wakeman/wakemanlaw28.HashRanges", spec := "hashRanges", unfollowed := true, recurses := true, named := ["wakeman/mix.steps"], apart := false, laid := [("wakeman/mix.steps", laid_wakeman_mix_steps)], narrowed := true }
def HashRangesUptoSaid : Prop := hashRangesUptoRow.holds Tryd.pinned (OpenSpec.upto hashRangesSpec)

/-- 'wakemanlaw28.HashCounts', WHERE WHAT IT READS IS OF BULK AT MOST 1048576: true; the input reads as it did. -/
def hashCountsUptoRow : OpenClaim := { program := "ytodijghpeikmoaadoor", sum := "3f677720cd372038c6ac8b9694fdcf545486a1b5e54bed7948040407ab78efda", func := "wakeman/wakemanlaw28.HashCounts", spec := "hashCounts", unfollowed := true, recurses := true, named := ["wakeman/mix.steps"], apart := false, laid := [("wakeman/mix.steps", laid_wakeman_mix_steps)], narrowed := true }
def HashCountsUptoSaid : Prop := hashCountsUptoRow.holds Tryd.pinned (OpenSpec.upto hashCountsSpec)

/-- 'wakemanlaw28.HashKnown', WHERE WHAT IT READS IS OF BULK AT MOST 1048576: true; the input reads as it did. -/
def hashKnownUptoRow : OpenClaim := { program := "ytodijghpeikmoaadoor", sum := "3f677720cd372038c6ac8b9694fdcf545486a1b5e54bed7948040407ab78efda", func := "wakeman/wakemanlaw28.HashKnown", spec := "hashKnown", unfollowed := true, recurses := true, named := ["wakeman/mix.steps"], apart := false, laid := [("wakeman/mix.steps", laid_wakeman_mix_steps)], narrowed := true }
def HashKnownUptoSaid : Prop := hashKnownUptoRow.holds Tryd.pinned (OpenSpec.upto hashKnownSpec)

/-- 'wakemanlaw28.HashSums', WHERE WHAT IT READS IS OF BULK AT MOST 1048576: true; the input reads as it did. -/
def hashSumsUptoRow : OpenClaim := { program := "ytodijghpeikmoaadoor", sum := "3f677720cd372038c6ac8b9694fdcf545486a1b5e54bed7948040407ab78efda", func := "wakeman/wakemanlaw28.HashSums", spec := "hashSums", unfollowed := true, recurses := true, named := ["wakeman/mix.steps"], apart := false, laid := [("wakeman/mix.steps", laid_wakeman_mix_steps)], narrowed := true }
def HashSumsUptoSaid : Prop := hashSumsUptoRow.holds Tryd.pinned (OpenSpec.upto hashSumsSpec)

/-- 'wakemanlaw28.HashKeys', WHERE WHAT IT READS IS OF BULK AT MOST 1048576: true; the input reads as it did. -/
def hashKeysUptoRow : OpenClaim := { program := "ytodijghpeikmoaadoor", sum := "3f677720cd372038c6ac8b9694fdcf545486a1b5e54bed7948040407ab78efda", func := "wakeman/wakemanlaw28.HashKeys", spec := "hashKeys", unfollowed := true, recurses := true, named := ["wakeman/mix.steps"], apart := false, laid := [("wakeman/mix.steps", laid_wakeman_mix_steps)], narrowed := true }
def HashKeysUptoSaid : Prop := hashKeysUptoRow.holds Tryd.pinned (OpenSpec.upto hashKeysSpec)

end Rows
end Go.Proofs.YtodijghpeikmoaaDoor
