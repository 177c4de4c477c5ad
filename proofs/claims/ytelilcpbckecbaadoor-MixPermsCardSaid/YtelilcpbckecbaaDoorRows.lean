/-
  NARROWER THAN 'FOR EVERY INPUT', by the rows' own cells (each row's printed sentence says how): MixPerms: laid · MixBelows: laid · MixPerm: laid · MixPlaces: laid · MixSources: laid · MixNil: laid · MixAgain: laid · MixNumbers: laid · MixReturns: laid · MixKnown: laid.
  DERIVED. THE GIVEN ROWS OF THIS SEAT. 10 by the template 'for every input the law returns true; each argument reads behind the call as it read before'; 0 by the template 'total and deterministic' (their statements: YtelilcpbckecbaaDoorTotals.lean).
  GIVEN WITH THE SEED: the statements are not yours to turn. If you find one false, say at which input.
  Laid BY PROGRAM, IN A SANDBOX (cutbox-rows.mjs): the forced cells as the released guide's own fill.sh prints them over the translation 99816b68b3827f00… (all of the seat's roots in one cut). By AI agents, Wed Nov 11 2026. No macro, syntax, notation, axiom, sorry.
-/
import Derived.Test.YtelilcpbckecbaaDoorChecked
import GoSem.Claim
import GoSem.ClaimJoined
import GoSem.ClaimMapViews
import Derived.JoinedTies
import Derived.KernelRfl
namespace Go.Proofs.YtelilcpbckecbaaDoor
/- THE CELL 'sum', in the pinned program and in every row, IS THE sha256 OF THE DUMP (.gsa) THAT YtelilcpbckecbaaDoorProg.lean LOADS. Nothing in Lean hashes anything: it is a label: what it is worth is what the hold of that sum in a sandbox is worth. -/
noncomputable def Tryd.pinned : Pinned := { name := "ytelilcpbckecbaadoor", sum := "99816b68b3827f00d8c4e00acfa02759dee0bc06112fbb098f04f09f879e73ba", checked := Tryd.checked }
namespace Rows
def none {H : Type} : Left H := { results := [], args := [] }

/- WHAT THE LISTED PACKAGE-LEVEL VARIABLES READ AS WHEN THE CALL BEGINS. Each datum BY PROGRAM (the guide's laid-datum.mjs) off the statement by which the dump's own 'gosem.cut.vars' lays the variable. In a bare row this is a premise. The card (YtelilcpbckecbaaDoorCards.lean) ties it to the program's text. -/
def laid_wakeman_mix_steps {H : Type} : DataW H := .agg [.agg [.lit (.int .i64 30), .lit (.int .u64 13787848793156543929)], .agg [.lit (.int .i64 27), .lit (.int .u64 10723151780598845931)], .agg [.lit (.int .i64 31), .lit (.int .u64 1)]]

/-- 'wakemanlaw27.MixPerms': WHATEVER THE INPUT: true; the input reads as it did. -/
def mixPermsSpec : ChangeSpec := { name := "mixPerms", fn := fun _ => fun
  | [d1, d2] => { results := [.lit (.bool true)], args := [d1, d2] }
  | _ => none }
def mixPermsRow : OpenClaim := { program := "ytelilcpbckecbaadoor", sum := "99816b68b3827f00d8c4e00acfa02759dee0bc06112fbb098f04f09f879e73ba", func := "wakeman/wakemanlaw27.MixPerms", spec := "mixPerms", unfollowed := true, recurses := true, named := ["wakeman/mix.steps"], apart := false, laid := [("wakeman/mix.steps", laid_wakeman_mix_steps)] }
def MixPermsSaid : Prop := mixPermsRow.holds Tryd.pinned (OpenSpec.ofChange mixPermsSpec)

/-- ITS FALSE NEIGHBOUR: 'it returns false'. Refute it at one input. -/
def mixPermsWrong : ChangeSpec := { name := "mixPerms", fn := fun _ => fun
  | [d1, d2] => { results := [.lit (.bool false)], args := [d1, d2] }
  | _ => none }
def MixPermsWrongFalsely : Prop := mixPermsRow.holds Tryd.pinned (OpenSpec.ofChange mixPermsWrong)

/-- 'wakemanlaw27.MixBelows': WHATEVER THE INPUT: true; the input reads as it did. -/
def mixBelowsSpec : ChangeSpec := { name := "mixBelows", fn := fun _ => fun
  | [d1, d2, d3] => { results := [.lit (.bool true)], args := [d1, d2, d3] }
  | _ => none }
def mixBelowsRow : OpenClaim := { program := "ytelilcpbckecbaadoor", sum := "99816b68b3827f00d8c4e00acfa02759dee0bc06112fbb098f04f09f879e73ba", func := "wakeman/wakemanlaw27.MixBelows", spec := "mixBelows", unfollowed := true, recurses := true, named := ["wakeman/mix.steps"], apart := false, laid := [("wakeman/mix.steps", laid_wakeman_mix_steps)] }
def MixBelowsSaid : Prop := mixBelowsRow.holds Tryd.pinned (OpenSpec.ofChange mixBelowsSpec)

/-- ITS FALSE NEIGHBOUR: 'it returns false'. Refute it at one input. -/
def mixBelowsWrong : ChangeSpec := { name := "mixBelows", fn := fun _ => fun
  | [d1, d2, d3] => { results := [.lit (.bool false)], args := [d1, d2, d3] }
  | _ => none }
def MixBelowsWrongFalsely : Prop := mixBelowsRow.holds Tryd.pinned (OpenSpec.ofChange mixBelowsWrong)

/-- 'wakemanlaw27.MixPerm': WHATEVER THE INPUT: true; the input reads as it did. -/
def mixPermSpec : ChangeSpec := { name := "mixPerm", fn := fun _ => fun
  | [d1, d2] => { results := [.lit (.bool true)], args := [d1, d2] }
  | _ => none }
def mixPermRow : OpenClaim := { program := "ytelilcpbckecbaadoor", sum := "99816b68b3827f00d8c4e00acfa02759dee0bc06112fbb098f04f09f879e73ba", func := "wakeman/wakemanlaw27.MixPerm", spec := "mixPerm", unfollowed := true, recurses := true, named := ["wakeman/mix.steps"], apart := false, laid := [("wakeman/mix.steps", laid_wakeman_mix_steps)] }
def MixPermSaid : Prop := mixPermRow.holds Tryd.pinned (OpenSpec.ofChange mixPermSpec)

/-- ITS FALSE NEIGHBOUR: 'it returns false'. Refute it at one input. -/
def mixPermWrong : ChangeSpec := { name := "mixPerm", fn := fun _ => fun
  | [d1, d2] => { results := [.lit (.bool false)], args := [d1, d2] }
  | _ => none }
def MixPermWrongFalsely : Prop := mixPermRow.holds Tryd.pinned (OpenSpec.ofChange mixPermWrong)

/-- 'wakemanlaw27.MixPlaces': WHATEVER THE INPUT: true; the input reads as it did. -/
def mixPlacesSpec : ChangeSpec := { name := "mixPlaces", fn := fun _ => fun
  | [d1, d2, d3] => { results := [.lit (.bool true)], args := [d1, d2, d3] }
  | _ => none }
def mixPlacesRow : OpenClaim := { program := "ytelilcpbckecbaadoor", sum := "99816b68b3827f00d8c4e00acfa02759dee0bc06112fbb098f04f09f879e73ba", func := "wakeman/wakemanlaw27.MixPlaces", spec := "mixPlaces", unfollowed := true, recurses := true, named := ["wakeman/mix.steps"], apart := false, laid := [("wakeman/mix.steps", laid_wakeman_mix_steps)] }
def MixPlacesSaid : Prop := mixPlacesRow.holds Tryd.pinned (OpenSpec.ofChange mixPlacesSpec)

/-- ITS FALSE NEIGHBOUR: 'it returns false'. Refute it at one input. -/
def mixPlacesWrong : ChangeSpec := { name := "mixPlaces", fn := fun _ => fun
  | [d1, d2, d3] => { results := [.lit (.bool false)], args := [d1, d2, d3] }
  | _ => none }
def MixPlacesWrongFalsely : Prop := mixPlacesRow.holds Tryd.pinned (OpenSpec.ofChange mixPlacesWrong)

/-- 'wakemanlaw27.MixSources': WHATEVER THE INPUT: true; the input reads as it did. -/
def mixSourcesSpec : ChangeSpec := { name := "mixSources", fn := fun _ => fun
  | [d1, d2, d3] => { results := [.lit (.bool true)], args := [d1, d2, d3] }
  | _ => none }
def mixSourcesRow : OpenClaim := { program := "ytelilcpbckecbaadoor", sum := "99816b68b3827f00d8c4e00acfa02759dee0bc06112fbb098f04f09f879e73ba", func := "wakeman/wakemanlaw27.MixSources", spec := "mixSources", unfollowed := true, recurses := true, named := ["wakeman/mix.steps"], apart := false, laid := [("wakeman/mix.steps", laid_wakeman_mix_steps)] }
def MixSourcesSaid : Prop := mixSourcesRow.holds Tryd.pinned (OpenSpec.ofChange mixSourcesSpec)

/-- ITS FALSE NEIGHBOUR: 'it returns false'. Refute it at one input. -/
def mixSourcesWrong : ChangeSpec := { name := "mixSources", fn := fun _ => fun
  | [d1, d2, d3] => { results := [.lit (.bool false)], args := [d1, d2, d3] }
  | _ => none }
def MixSourcesWrongFalsely : Prop := mixSourcesRow.holds Tryd.pinned (OpenSpec.ofChange mixSourcesWrong)

/-- 'wakemanlaw27.MixNil': WHATEVER THE INPUT: true; the input reads as it did. -/
def mixNilSpec : ChangeSpec := { name := "mixNil", fn := fun _ => fun
  | [d] => { results := [.lit (.bool true)], args := [d] }
  | _ => none }
def mixNilRow : OpenClaim := { program := "ytelilcpbckecbaadoor", sum := "99816b68b3827f00d8c4e00acfa02759dee0bc06112fbb098f04f09f879e73ba", func := "wakeman/wakemanlaw27.MixNil", spec := "mixNil", unfollowed := true, recurses := true, named := ["wakeman/mix.steps"], apart := false, laid := [("wakeman/mix.steps", laid_wakeman_mix_steps)] }
def MixNilSaid : Prop := mixNilRow.holds Tryd.pinned (OpenSpec.ofChange mixNilSpec)

/-- ITS FALSE NEIGHBOUR: 'it returns false'. Refute it at one input. -/
def mixNilWrong : ChangeSpec := { name := "mixNil", fn := fun _ => fun
  | [d] => { results := [.lit (.bool false)], args := [d] }
  | _ => none }
def MixNilWrongFalsely : Prop := mixNilRow.holds Tryd.pinned (OpenSpec.ofChange mixNilWrong)

/-- 'wakemanlaw27.MixAgain': WHATEVER THE INPUT: true; the input reads as it did. -/
def mixAgainSpec : ChangeSpec := { name := "mixAgain", fn := fun _ => fun
  | [d1, d2, d3] => { results := [.lit (.bool true)], args := [d1, d2, d3] }
  | _ => none }
def mixAgainRow : OpenClaim := { program := "ytelilcpbckecbaadoor", sum := "99816b68b3827f00d8c4e00acfa02759dee0bc06112fbb098f04f09f879e73ba", func := "wakeman/wakemanlaw27.MixAgain", spec := "mixAgain", unfollowed := true, recurses := true, named := ["wakeman/mix.steps"], apart := false, laid := [("wakeman/mix.steps", laid_wakeman_mix_steps)] }
def MixAgainSaid : Prop := mixAgainRow.holds Tryd.pinned (OpenSpec.ofChange mixAgainSpec)

/-- ITS FALSE NEIGHBOUR: 'it returns false'. Refute it at one input. -/
def mixAgainWrong : ChangeSpec := { name := "mixAgain", fn := fun _ => fun
  | [d1, d2, d3] => { results := [.lit (.bool false)], args := [d1, d2, d3] }
  | _ => none }
def MixAgainWrongFalsely : Prop := mixAgainRow.holds Tryd.pinned (OpenSpec.ofChange mixAgainWrong)

/-- 'wakemanlaw27.MixNumbers': WHATEVER THE INPUT: true; the input reads as it did. -/
def mixNumbersSpec : ChangeSpec := { name := "mixNumbers", fn := fun _ => fun
  | [d1, d2] => { results := [.lit (.bool true)], args := [d1, d2] }
  | _ => none }
def mixNumbersRow : OpenClaim := { program := "ytelilcpbckecbaadoor", sum := "99816b68b3827f00d8c4e00acfa02759dee0bc06112fbb098f04f09f879e73ba", func := "wakeman/wakemanlaw27.MixNumbers", spec := "mixNumbers", unfollowed := true, recurses := true, named := ["wakeman/mix.steps"], apart := false, laid := [("wakeman/mix.steps", laid_wakeman_mix_steps)] }
def MixNumbersSaid : Prop := mixNumbersRow.holds Tryd.pinned (OpenSpec.ofChange mixNumbersSpec)

/-- ITS FALSE NEIGHBOUR: 'it returns false'. Refute it at one input. -/
def mixNumbersWrong : ChangeSpec := { name := "mixNumbers", fn := fun _ => fun
  | [d1, d2] => { results := [.lit (.bool false)], args := [d1, d2] }
  | _ => none }
def MixNumbersWrongFalsely : Prop := mixNumbersRow.holds Tryd.pinned (OpenSpec.ofChange mixNumbersWrong)

/-- 'wakemanlaw27.MixReturns': WHATEVER THE INPUT: true; the input reads as it did. -/
def mixReturnsSpec : ChangeSpec := { name := "mixReturns", fn := fun _ => fun
  | [d] => { results := [.lit (.bool true)], args := [d] }
  | _ => none }
def mixReturnsRow : OpenClaim := { program := "ytelilcpbckecbaadoor", sum := "99816b68b3827f00d8c4e00acfa02759dee0bc06112fbb098f04f09f879e73ba", func := "wakeman/wakemanlaw27.MixReturns", spec := "mixReturns", unfollowed := true, recurses := true, named := ["wakeman/mix.steps"], apart := false, laid := [("wakeman/mix.steps", laid_wakeman_mix_steps)] }
def MixReturnsSaid : Prop := mixReturnsRow.holds Tryd.pinned (OpenSpec.ofChange mixReturnsSpec)

/-- ITS FALSE NEIGHBOUR: 'it returns false'. Refute it at one input. -/
def mixReturnsWrong : ChangeSpec := { name := "mixReturns", fn := fun _ => fun
  | [d] => { results := [.lit (.bool false)], args := [d] }
  | _ => none }
def MixReturnsWrongFalsely : Prop := mixReturnsRow.holds Tryd.pinned (OpenSpec.ofChange mixReturnsWrong)

/-- 'wakemanlaw27.MixKnown': WHATEVER THE INPUT: true; the input reads as it did. -/
def mixKnownSpec : ChangeSpec := { name := "mixKnown", fn := fun _ => fun
  | [] => { results := [.lit (.bool true)], args := [] }
  | _ => none }
def mixKnownRow : OpenClaim := { program := "ytelilcpbckecbaadoor", sum := "99816b68b3827f00d8c4e00acfa02759dee0bc06112fbb098f04f09f879e73ba", func := "wakeman/wakemanlaw27.MixKnown", spec := "mixKnown", unfollowed := true, recurses := true, named := ["wakeman/mix.steps"], apart := false, laid := [("wakeman/mix.steps", laid_wakeman_mix_steps)] }
def MixKnownSaid : Prop := mixKnownRow.holds Tryd.pinned (OpenSpec.ofChange mixKnownSpec)

/-- ITS FALSE NEIGHBOUR: 'it returns false'. Refute it at one input. -/
def mixKnownWrong : ChangeSpec := { name := "mixKnown", fn := fun _ => fun
  | [] => { results := [.lit (.bool false)], args := [] }
  | _ => none }
def MixKnownWrongFalsely : Prop := mixKnownRow.holds Tryd.pinned (OpenSpec.ofChange mixKnownWrong)

/- THE SECOND FORM. 'bulk': how many values and letters a reading holds, each counted each time it is reached (what is shared counts as often as it is met; a slice's spare places count too). A statement '..UptoSaid' is the law's where the arguments, and the package variables that the reading takes, are together of bulk at most 1048576: NARROWER than '..Said'. Prove '..Said' where nothing that the law and all that it calls make is longer than what came in: it says more and counts as full. Else prove '..UptoSaid'. A law counts once. -/
mutual
def uptoBulk {H : Type} : DataW H → Nat
  | .lit (.string bytes) => bytes.length + 1
  | .lit _ => 1
  | .nil => 1
  | .ptr d => uptoBulk d + 1
  | .slice elems spare => uptoBulkAll elems + uptoBulkAll spare + 1
  | .agg parts => uptoBulkAll parts + 1
  | .iface _ d => uptoBulk d + 1
  | .map entries => uptoBulkEntries entries + 1
  | .held _ => 1
def uptoBulkAll {H : Type} : List (DataW H) → Nat
  | [] => 0
  | d :: r => uptoBulk d + uptoBulkAll r
def uptoBulkEntries {H : Type} : List (Lit × DataW H) → Nat
  | [] => 0
  | x :: r => uptoBulkEntry x + uptoBulkEntries r
def uptoBulkEntry {H : Type} : Lit × DataW H → Nat
  | (.string bytes, d) => bytes.length + uptoBulk d + 1
  | (_, d) => uptoBulk d + 1
 end
def uptoSmall : (H : Type) → List (DataW H) → Bool := fun _ ds => decide (uptoBulkAll ds ≤ 1048576)
def OpenSpec.upto (s : _root_.Go.ChangeSpec) : _root_.Go.OpenSpec := { _root_.Go.OpenSpec.ofChange s with cond := some uptoSmall }

/-- 'wakemanlaw27.MixPerms', WHERE WHAT IT READS IS OF BULK AT MOST 1048576: true; the input reads as it did. -/
def mixPermsUptoRow : OpenClaim := { program := "ytelilcpbckecbaadoor", sum := "99816b68b3827f00d8c4e00acfa02759dee0bc06112fbb098f04f09f879e73ba", func := "wakeman/wakemanlaw27.MixPerms", spec := "mixPerms", unfollowed := true, recurses := true, named := ["wakeman/mix.steps"], apart := false, laid := [("wakeman/mix.steps", laid_wakeman_mix_steps)], narrowed := true }
def MixPermsUptoSaid : Prop := mixPermsUptoRow.holds Tryd.pinned (OpenSpec.upto mixPermsSpec)

/-- 'wakemanlaw27.MixBelows', WHERE WHAT IT READS IS OF BULK AT MOST 1048576: true; the input reads as it did. -/
def mixBelowsUptoRow : OpenClaim := { program := "ytelilcpbckecbaadoor", sum := "99816b68b3827f00d8c4e00acfa02759dee0bc06112fbb098f04f09f879e73ba", func := "wakeman/wakemanlaw27.MixBelows", spec := "mixBelows", unfollowed := true, recurses := true, named := ["wakeman/mix.steps"], apart := false, laid := [("wakeman/mix.steps", laid_wakeman_mix_steps)], narrowed := true }
def MixBelowsUptoSaid : Prop := mixBelowsUptoRow.holds Tryd.pinned (OpenSpec.upto mixBelowsSpec)

/-- 'wakemanlaw27.MixPerm', WHERE WHAT IT READS IS OF BULK AT MOST 1048576: true; the input reads as it did. -/
def mixPermUptoRow : OpenClaim := { program := "ytelilcpbckecbaadoor", sum := "99816b68b3827f00d8c4e00acfa02759dee0bc06112fbb098f04f09f879e73ba", func := "wakeman/wakemanlaw27.MixPerm", spec := "mixPerm", unfollowed := true, recurses := true, named := ["wakeman/mix.steps"], apart := false, laid := [("wakeman/mix.steps", laid_wakeman_mix_steps)], narrowed := true }
def MixPermUptoSaid : Prop := mixPermUptoRow.holds Tryd.pinned (OpenSpec.upto mixPermSpec)

/-- 'wakemanlaw27.MixPlaces', WHERE WHAT IT READS IS OF BULK AT MOST 1048576: true; the input reads as it did. -/
def mixPlacesUptoRow : OpenClaim := { program := "ytelilcpbckecbaadoor", sum := "99816b68b3827f00d8c4e00acfa02759dee0bc06112fbb098f04f09f879e73ba", func := "wakeman/wakemanlaw27.MixPlaces", spec := "mixPlaces", unfollowed := true, recurses := true, named := ["wakeman/mix.steps"], apart := false, laid := [("wakeman/mix.steps", laid_wakeman_mix_steps)], narrowed := true }
def MixPlacesUptoSaid : Prop := mixPlacesUptoRow.holds Tryd.pinned (OpenSpec.upto mixPlacesSpec)

/-- 'wakemanlaw27.MixSources', WHERE WHAT IT READS IS OF BULK AT MOST 1048576: true; the input reads as it did. -/
def mixSourcesUptoRow : OpenClaim := { program := "ytelilcpbckecbaadoor", sum := "99816b68b3827f00d8c4e00acfa02759dee0bc06112fbb098f04f09f879e73ba", func := "wakeman/wakemanlaw27.MixSources", spec := "mixSources", unfollowed := true, recurses := true, named := ["wakeman/mix.steps"], apart := false, laid := [("wakeman/mix.steps", laid_wakeman_mix_steps)], narrowed := true }
def MixSourcesUptoSaid : Prop := mixSourcesUptoRow.holds Tryd.pinned (OpenSpec.upto mixSourcesSpec)

/-- 'wakemanlaw27.MixNil', WHERE WHAT IT READS IS OF BULK AT MOST 1048576: true; the input reads as it did. -/
def mixNilUptoRow : OpenClaim := { program := "ytelilcpbckecbaadoor", sum := "99816b68b3827f00d8c4e00acfa02759dee0bc06112fbb098f04f09f879e73ba", func := "wakeman/wakemanlaw27.MixNil", spec := "mixNil", unfollowed := true, recurses := true, named := ["wakeman/mix.steps"], apart := false, laid := [("wakeman/mix.steps", laid_wakeman_mix_steps)], narrowed := true }
def MixNilUptoSaid : Prop := mixNilUptoRow.holds Tryd.pinned (OpenSpec.upto mixNilSpec)

/-- 'wakemanlaw27.MixAgain', WHERE WHAT IT READS IS OF BULK AT MOST 1048576: true; the input reads as it did. -/
def mixAgainUptoRow : OpenClaim := { program := "ytelilcpbckecbaadoor", sum := "99816b68b3827f00d8c4e00acfa02759dee0bc06112fbb098f04f09f879e73ba", func := "wakeman/wakemanlaw27.MixAgain", spec := "mixAgain", unfollowed := true, recurses := true, named := ["wakeman/mix.steps"], apart := false, laid := [("wakeman/mix.steps", laid_wakeman_mix_steps)], narrowed := true }
def MixAgainUptoSaid : Prop := mixAgainUptoRow.holds Tryd.pinned (OpenSpec.upto mixAgainSpec)

/-- 'wakemanlaw27.MixNumbers', WHERE WHAT IT READS IS OF BULK AT MOST 1048576: true; the input reads as it did. -/
def mixNumbersUptoRow : OpenClaim := { program := "ytelilcpbckecbaadoor", sum := "99816b68b3827f00d8c4e00acfa02759dee0bc06112fbb098f04f09f879e73ba", func := "wakeman/wakemanlaw27.MixNumbers", spec := "mixNumbers", unfollowed := true, recurses := true, named := ["wakeman/mix.steps"], apart := false, laid := [("wakeman/mix.steps", laid_wakeman_mix_steps)], narrowed := true }
def MixNumbersUptoSaid : Prop := mixNumbersUptoRow.holds Tryd.pinned (OpenSpec.upto mixNumbersSpec)

/-- 'wakemanlaw27.MixReturns', WHERE WHAT IT READS IS OF BULK AT MOST 1048576: true; the input reads as it did. -/
def mixReturnsUptoRow : OpenClaim := { program := "ytelilcpbckecbaadoor", sum := "99816b68b3827f00d8c4e00acfa02759dee0bc06112fbb098f04f09f879e73ba", func := "wakeman/wakemanlaw27.MixReturns", spec := "mixReturns", unfollowed := true, recurses := true, named := ["wakeman/mix.steps"], apart := false, laid := [("wakeman/mix.steps", laid_wakeman_mix_steps)], narrowed := true }
def MixReturnsUptoSaid : Prop := mixReturnsUptoRow.holds Tryd.pinned (OpenSpec.upto mixReturnsSpec)

/-- 'wakemanlaw27.MixKnown', WHERE WHAT IT READS IS OF BULK AT MOST 1048576: true; the input reads as it did. -/
def mixKnownUptoRow : OpenClaim := { program := "ytelilcpbckecbaadoor", sum := "99816b68b3827f00d8c4e00acfa02759dee0bc06112fbb098f04f09f879e73ba", func := "wakeman/wakemanlaw27.MixKnown", spec := "mixKnown", unfollowed := true, recurses := true, named := ["wakeman/mix.steps"], apart := false, laid := [("wakeman/mix.steps", laid_wakeman_mix_steps)], narrowed := true }
def MixKnownUptoSaid : Prop := mixKnownUptoRow.holds Tryd.pinned (OpenSpec.upto mixKnownSpec)

end Rows
end Go.Proofs.YtelilcpbckecbaaDoor
