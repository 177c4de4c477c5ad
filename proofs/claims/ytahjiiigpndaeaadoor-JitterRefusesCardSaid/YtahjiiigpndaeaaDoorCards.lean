/-
  DERIVED. GIVEN WITH THE SEED: THE CARDS: each row of YtahjiiigpndaeaaDoorRows.lean that lists a variable, with what it lists TIED to the program's text (the seventh form; the later family's looks); each row that meets fmt, with fmt's text TOLD by the authors' own Lean function (tested against real Go, not proved from fmt's source: count such statements apart). THE CARD IS WHAT COUNTS. Prove the row's statement (the work); the ties are given (YtahjiiigpndaeaaDoorTie.lean); close each card by the builder's one call (the guide's Derived/Test/ToyasCard.lean, 'card_holds'). Laid BY PROGRAM, IN A SANDBOX (cutbox-door.mjs). By AI agents, Wed Nov 11 2026. No macro, syntax, notation, axiom, sorry.
-/
import Derived.Test.YtahjiiigpndaeaaDoorRows
import GoSem.ClaimSeven
namespace Go.Proofs.YtahjiiigpndaeaaDoor
namespace Rows

/-- THE TIED CARD OF 'wakemanlaw29.JitterRefuses'. -/
def jitterRefusesCard : Claim7 := { stood := { row := jitterRefusesRow, standIns := [], harness := (true, "e9e9dc2c0920686a8d4dcb6c62aca42b951c435387dccc4e94709984ef6a0274"), looks := false }, kinds := [], alts := [], laidByText := true, laidKinds := [.wider], laidTests := true, laidLooks := .later }
def JitterRefusesCardSaid : Prop := Claim7.holds Tryd.pinned (.plain (OpenSpec.ofChange jitterRefusesSpec)) jitterRefusesCard

/-- THE TIED CARD OF 'wakemanlaw29.JitterWaits'. -/
def jitterWaitsCard : Claim7 := { stood := { row := jitterWaitsRow, standIns := [], harness := (true, "e9e9dc2c0920686a8d4dcb6c62aca42b951c435387dccc4e94709984ef6a0274"), looks := false }, kinds := [], alts := [], laidByText := true, laidKinds := [.wider], laidTests := true, laidLooks := .later }
def JitterWaitsCardSaid : Prop := Claim7.holds Tryd.pinned (.plain (OpenSpec.ofChange jitterWaitsSpec)) jitterWaitsCard

/-- THE TIED CARD OF 'wakemanlaw29.JitterSpreads'. -/
def jitterSpreadsCard : Claim7 := { stood := { row := jitterSpreadsRow, standIns := [], harness := (true, "e9e9dc2c0920686a8d4dcb6c62aca42b951c435387dccc4e94709984ef6a0274"), looks := false }, kinds := [], alts := [], laidByText := true, laidKinds := [.wider], laidTests := true, laidLooks := .later }
def JitterSpreadsCardSaid : Prop := Claim7.holds Tryd.pinned (.plain (OpenSpec.ofChange jitterSpreadsSpec)) jitterSpreadsCard

/-- THE TIED CARD OF 'wakemanlaw29.JitterSames'. -/
def jitterSamesCard : Claim7 := { stood := { row := jitterSamesRow, standIns := [], harness := (true, "e9e9dc2c0920686a8d4dcb6c62aca42b951c435387dccc4e94709984ef6a0274"), looks := false }, kinds := [], alts := [], laidByText := true, laidKinds := [.wider], laidTests := true, laidLooks := .later }
def JitterSamesCardSaid : Prop := Claim7.holds Tryd.pinned (.plain (OpenSpec.ofChange jitterSamesSpec)) jitterSamesCard

/-- THE TIED CARD OF 'wakemanlaw29.JitterBelow'. -/
def jitterBelowCard : Claim7 := { stood := { row := jitterBelowRow, standIns := [], harness := (true, "e9e9dc2c0920686a8d4dcb6c62aca42b951c435387dccc4e94709984ef6a0274"), looks := false }, kinds := [], alts := [], laidByText := true, laidKinds := [.wider], laidTests := true, laidLooks := .later }
def JitterBelowCardSaid : Prop := Claim7.holds Tryd.pinned (.plain (OpenSpec.ofChange jitterBelowSpec)) jitterBelowCard

/-- THE TIED CARD OF 'wakemanlaw29.JitterMade'. -/
def jitterMadeCard : Claim7 := { stood := { row := jitterMadeRow, standIns := [], harness := (true, "e9e9dc2c0920686a8d4dcb6c62aca42b951c435387dccc4e94709984ef6a0274"), looks := false }, kinds := [], alts := [], laidByText := true, laidKinds := [.wider], laidTests := true, laidLooks := .later }
def JitterMadeCardSaid : Prop := Claim7.holds Tryd.pinned (.plain (OpenSpec.ofChange jitterMadeSpec)) jitterMadeCard

/-- THE TIED CARD OF 'wakemanlaw29.JitterSpread'. -/
def jitterSpreadCard : Claim7 := { stood := { row := jitterSpreadRow, standIns := [], harness := (true, "e9e9dc2c0920686a8d4dcb6c62aca42b951c435387dccc4e94709984ef6a0274"), looks := false }, kinds := [], alts := [], laidByText := true, laidKinds := [.wider], laidTests := true, laidLooks := .later }
def JitterSpreadCardSaid : Prop := Claim7.holds Tryd.pinned (.plain (OpenSpec.ofChange jitterSpreadSpec)) jitterSpreadCard

/-- THE TIED CARD OF 'wakemanlaw29.JitterSame'. -/
def jitterSameCard : Claim7 := { stood := { row := jitterSameRow, standIns := [], harness := (true, "e9e9dc2c0920686a8d4dcb6c62aca42b951c435387dccc4e94709984ef6a0274"), looks := false }, kinds := [], alts := [], laidByText := true, laidKinds := [.wider], laidTests := true, laidLooks := .later }
def JitterSameCardSaid : Prop := Claim7.holds Tryd.pinned (.plain (OpenSpec.ofChange jitterSameSpec)) jitterSameCard

/-- THE TIED CARD OF 'wakemanlaw29.JitterLists'. -/
def jitterListsCard : Claim7 := { stood := { row := jitterListsRow, standIns := [], harness := (true, "e9e9dc2c0920686a8d4dcb6c62aca42b951c435387dccc4e94709984ef6a0274"), looks := false }, kinds := [], alts := [], laidByText := true, laidKinds := [.wider], laidTests := true, laidLooks := .later }
def JitterListsCardSaid : Prop := Claim7.holds Tryd.pinned (.plain (OpenSpec.ofChange jitterListsSpec)) jitterListsCard

/-- THE TIED CARD OF 'wakemanlaw29.JitterFirst'. -/
def jitterFirstCard : Claim7 := { stood := { row := jitterFirstRow, standIns := [], harness := (true, "e9e9dc2c0920686a8d4dcb6c62aca42b951c435387dccc4e94709984ef6a0274"), looks := false }, kinds := [], alts := [], laidByText := true, laidKinds := [.wider], laidTests := true, laidLooks := .later }
def JitterFirstCardSaid : Prop := Claim7.holds Tryd.pinned (.plain (OpenSpec.ofChange jitterFirstSpec)) jitterFirstCard

/-- THE SECOND FORM's CARD OF 'wakemanlaw29.JitterRefuses'. -/
def jitterRefusesUptoCard : Claim7 := { stood := { row := jitterRefusesUptoRow, standIns := [], harness := (true, "e9e9dc2c0920686a8d4dcb6c62aca42b951c435387dccc4e94709984ef6a0274"), looks := false }, kinds := [], alts := [], laidByText := true, laidKinds := [.wider], laidTests := true, laidLooks := .later }
def JitterRefusesUptoCardSaid : Prop := Claim7.holds Tryd.pinned (.plain (OpenSpec.upto jitterRefusesSpec)) jitterRefusesUptoCard

/-- THE SECOND FORM's CARD OF 'wakemanlaw29.JitterWaits'. -/
def jitterWaitsUptoCard : Claim7 := { stood := { row := jitterWaitsUptoRow, standIns := [], harness := (true, "e9e9dc2c0920686a8d4dcb6c62aca42b951c435387dccc4e94709984ef6a0274"), looks := false }, kinds := [], alts := [], laidByText := true, laidKinds := [.wider], laidTests := true, laidLooks := .later }
def JitterWaitsUptoCardSaid : Prop := Claim7.holds Tryd.pinned (.plain (OpenSpec.upto jitterWaitsSpec)) jitterWaitsUptoCard

/-- THE SECOND FORM's CARD OF 'wakemanlaw29.JitterSpreads'. -/
def jitterSpreadsUptoCard : Claim7 := { stood := { row := jitterSpreadsUptoRow, standIns := [], harness := (true, "e9e9dc2c0920686a8d4dcb6c62aca42b951c435387dccc4e94709984ef6a0274"), looks := false }, kinds := [], alts := [], laidByText := true, laidKinds := [.wider], laidTests := true, laidLooks := .later }
def JitterSpreadsUptoCardSaid : Prop := Claim7.holds Tryd.pinned (.plain (OpenSpec.upto jitterSpreadsSpec)) jitterSpreadsUptoCard

/-- THE SECOND FORM's CARD OF 'wakemanlaw29.JitterSames'. -/
def jitterSamesUptoCard : Claim7 := { stood := { row := jitterSamesUptoRow, standIns := [], harness := (true, "e9e9dc2c0920686a8d4dcb6c62aca42b951c435387dccc4e94709984ef6a0274"), looks := false }, kinds := [], alts := [], laidByText := true, laidKinds := [.wider], laidTests := true, laidLooks := .later }
def JitterSamesUptoCardSaid : Prop := Claim7.holds Tryd.pinned (.plain (OpenSpec.upto jitterSamesSpec)) jitterSamesUptoCard

/-- THE SECOND FORM's CARD OF 'wakemanlaw29.JitterBelow'. -/
def jitterBelowUptoCard : Claim7 := { stood := { row := jitterBelowUptoRow, standIns := [], harness := (true, "e9e9dc2c0920686a8d4dcb6c62aca42b951c435387dccc4e94709984ef6a0274"), looks := false }, kinds := [], alts := [], laidByText := true, laidKinds := [.wider], laidTests := true, laidLooks := .later }
def JitterBelowUptoCardSaid : Prop := Claim7.holds Tryd.pinned (.plain (OpenSpec.upto jitterBelowSpec)) jitterBelowUptoCard

/-- THE SECOND FORM's CARD OF 'wakemanlaw29.JitterMade'. -/
def jitterMadeUptoCard : Claim7 := { stood := { row := jitterMadeUptoRow, standIns := [], harness := (true, "e9e9dc2c0920686a8d4dcb6c62aca42b951c435387dccc4e94709984ef6a0274"), looks := false }, kinds := [], alts := [], laidByText := true, laidKinds := [.wider], laidTests := true, laidLooks := .later }
def JitterMadeUptoCardSaid : Prop := Claim7.holds Tryd.pinned (.plain (OpenSpec.upto jitterMadeSpec)) jitterMadeUptoCard

/-- THE SECOND FORM's CARD OF 'wakemanlaw29.JitterSpread'. -/
def jitterSpreadUptoCard : Claim7 := { stood := { row := jitterSpreadUptoRow, standIns := [], harness := (true, "e9e9dc2c0920686a8d4dcb6c62aca42b951c435387dccc4e94709984ef6a0274"), looks := false }, kinds := [], alts := [], laidByText := true, laidKinds := [.wider], laidTests := true, laidLooks := .later }
def JitterSpreadUptoCardSaid : Prop := Claim7.holds Tryd.pinned (.plain (OpenSpec.upto jitterSpreadSpec)) jitterSpreadUptoCard

/-- THE SECOND FORM's CARD OF 'wakemanlaw29.JitterSame'. -/
def jitterSameUptoCard : Claim7 := { stood := { row := jitterSameUptoRow, standIns := [], harness := (true, "e9e9dc2c0920686a8d4dcb6c62aca42b951c435387dccc4e94709984ef6a0274"), looks := false }, kinds := [], alts := [], laidByText := true, laidKinds := [.wider], laidTests := true, laidLooks := .later }
def JitterSameUptoCardSaid : Prop := Claim7.holds Tryd.pinned (.plain (OpenSpec.upto jitterSameSpec)) jitterSameUptoCard

/-- THE SECOND FORM's CARD OF 'wakemanlaw29.JitterLists'. -/
def jitterListsUptoCard : Claim7 := { stood := { row := jitterListsUptoRow, standIns := [], harness := (true, "e9e9dc2c0920686a8d4dcb6c62aca42b951c435387dccc4e94709984ef6a0274"), looks := false }, kinds := [], alts := [], laidByText := true, laidKinds := [.wider], laidTests := true, laidLooks := .later }
def JitterListsUptoCardSaid : Prop := Claim7.holds Tryd.pinned (.plain (OpenSpec.upto jitterListsSpec)) jitterListsUptoCard

/-- THE SECOND FORM's CARD OF 'wakemanlaw29.JitterFirst'. -/
def jitterFirstUptoCard : Claim7 := { stood := { row := jitterFirstUptoRow, standIns := [], harness := (true, "e9e9dc2c0920686a8d4dcb6c62aca42b951c435387dccc4e94709984ef6a0274"), looks := false }, kinds := [], alts := [], laidByText := true, laidKinds := [.wider], laidTests := true, laidLooks := .later }
def JitterFirstUptoCardSaid : Prop := Claim7.holds Tryd.pinned (.plain (OpenSpec.upto jitterFirstSpec)) jitterFirstUptoCard
end Rows
end Go.Proofs.YtahjiiigpndaeaaDoor
