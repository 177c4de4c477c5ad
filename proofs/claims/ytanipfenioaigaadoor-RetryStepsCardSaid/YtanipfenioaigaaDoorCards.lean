/-
  DERIVED. GIVEN WITH THE SEED: THE CARDS: each row of YtanipfenioaigaaDoorRows.lean that lists a variable, with what it lists TIED to the program's text (the seventh form; the later family's looks); each row that meets fmt, with fmt's text TOLD by the authors' own Lean function (tested against real Go, not proved from fmt's source: count such statements apart). THE CARD IS WHAT COUNTS. Prove the row's statement (the work); the ties are given (YtanipfenioaigaaDoorTie.lean); close each card by the builder's one call (the guide's Derived/Test/ToyasCard.lean, 'card_holds'). Laid BY PROGRAM, IN A SANDBOX (cutbox-door.mjs). By AI agents, Wed Nov 11 2026. No macro, syntax, notation, axiom, sorry.
-/
import Derived.Test.YtanipfenioaigaaDoorRows
import GoSem.ClaimSeven
namespace Go.Proofs.YtanipfenioaigaaDoor
namespace Rows

/-- THE TIED CARD OF 'wakemanlaw31.RetryChains'. -/
def retryChainsCard : Claim7 := { stood := { row := retryChainsRow, standIns := [], harness := (true, "3918f9fbfc6a6ebdb49b3ecbe7adbc86efed8dd4972b5820ee1f47c86741a9cd"), looks := false }, kinds := [], alts := [], laidByText := true, laidKinds := [.wider], laidTests := true, laidLooks := .later }
def RetryChainsCardSaid : Prop := Claim7.holds Tryd.pinned (.plain (OpenSpec.ofChange retryChainsSpec)) retryChainsCard

/-- THE TIED CARD OF 'wakemanlaw31.RetryNexts'. -/
def retryNextsCard : Claim7 := { stood := { row := retryNextsRow, standIns := [], harness := (true, "3918f9fbfc6a6ebdb49b3ecbe7adbc86efed8dd4972b5820ee1f47c86741a9cd"), looks := false }, kinds := [], alts := [], laidByText := true, laidKinds := [.wider], laidTests := true, laidLooks := .later }
def RetryNextsCardSaid : Prop := Claim7.holds Tryd.pinned (.plain (OpenSpec.ofChange retryNextsSpec)) retryNextsCard

/-- THE TIED CARD OF 'wakemanlaw31.RetryBounds'. -/
def retryBoundsCard : Claim7 := { stood := { row := retryBoundsRow, standIns := [], harness := (true, "3918f9fbfc6a6ebdb49b3ecbe7adbc86efed8dd4972b5820ee1f47c86741a9cd"), looks := false }, kinds := [], alts := [], laidByText := true, laidKinds := [.wider], laidTests := true, laidLooks := .later }
def RetryBoundsCardSaid : Prop := Claim7.holds Tryd.pinned (.plain (OpenSpec.ofChange retryBoundsSpec)) retryBoundsCard

/-- THE TIED CARD OF 'wakemanlaw31.RetryWithin'. -/
def retryWithinCard : Claim7 := { stood := { row := retryWithinRow, standIns := [], harness := (true, "3918f9fbfc6a6ebdb49b3ecbe7adbc86efed8dd4972b5820ee1f47c86741a9cd"), looks := false }, kinds := [], alts := [], laidByText := true, laidKinds := [.wider], laidTests := true, laidLooks := .later }
def RetryWithinCardSaid : Prop := Claim7.holds Tryd.pinned (.plain (OpenSpec.ofChange retryWithinSpec)) retryWithinCard

/-- THE TIED CARD OF 'wakemanlaw31.RetrySteps'. -/
def retryStepsCard : Claim7 := { stood := { row := retryStepsRow, standIns := [], harness := (true, "3918f9fbfc6a6ebdb49b3ecbe7adbc86efed8dd4972b5820ee1f47c86741a9cd"), looks := false }, kinds := [], alts := [], laidByText := true, laidKinds := [.wider], laidTests := true, laidLooks := .later }
def RetryStepsCardSaid : Prop := Claim7.holds Tryd.pinned (.plain (OpenSpec.ofChange retryStepsSpec)) retryStepsCard

/-- THE TIED CARD OF 'wakemanlaw31.RetryLatest'. -/
def retryLatestCard : Claim7 := { stood := { row := retryLatestRow, standIns := [], harness := (true, "3918f9fbfc6a6ebdb49b3ecbe7adbc86efed8dd4972b5820ee1f47c86741a9cd"), looks := false }, kinds := [], alts := [], laidByText := true, laidKinds := [.wider], laidTests := true, laidLooks := .later }
def RetryLatestCardSaid : Prop := Claim7.holds Tryd.pinned (.plain (OpenSpec.ofChange retryLatestSpec)) retryLatestCard

/-- THE TIED CARD OF 'wakemanlaw31.RetryLeft'. -/
def retryLeftCard : Claim7 := { stood := { row := retryLeftRow, standIns := [], harness := (true, "3918f9fbfc6a6ebdb49b3ecbe7adbc86efed8dd4972b5820ee1f47c86741a9cd"), looks := false }, kinds := [], alts := [], laidByText := true, laidKinds := [.wider], laidTests := true, laidLooks := .later }
def RetryLeftCardSaid : Prop := Claim7.holds Tryd.pinned (.plain (OpenSpec.ofChange retryLeftSpec)) retryLeftCard

/-- THE TIED CARD OF 'wakemanlaw31.RetryShifts'. -/
def retryShiftsCard : Claim7 := { stood := { row := retryShiftsRow, standIns := [], harness := (true, "3918f9fbfc6a6ebdb49b3ecbe7adbc86efed8dd4972b5820ee1f47c86741a9cd"), looks := false }, kinds := [], alts := [], laidByText := true, laidKinds := [.wider], laidTests := true, laidLooks := .later }
def RetryShiftsCardSaid : Prop := Claim7.holds Tryd.pinned (.plain (OpenSpec.ofChange retryShiftsSpec)) retryShiftsCard

/-- THE TIED CARD OF 'wakemanlaw31.RetryErrors'. -/
def retryErrorsCard : Claim7 := { stood := { row := retryErrorsRow, standIns := [], harness := (true, "3918f9fbfc6a6ebdb49b3ecbe7adbc86efed8dd4972b5820ee1f47c86741a9cd"), looks := false }, kinds := [], alts := [], laidByText := true, laidKinds := [.wider], laidTests := true, laidLooks := .later }
def RetryErrorsCardSaid : Prop := Claim7.holds Tryd.pinned (.plain (OpenSpec.ofChange retryErrorsSpec)) retryErrorsCard

/-- THE SECOND FORM's CARD OF 'wakemanlaw31.RetryChains'. -/
def retryChainsUptoCard : Claim7 := { stood := { row := retryChainsUptoRow, standIns := [], harness := (true, "3918f9fbfc6a6ebdb49b3ecbe7adbc86efed8dd4972b5820ee1f47c86741a9cd"), looks := false }, kinds := [], alts := [], laidByText := true, laidKinds := [.wider], laidTests := true, laidLooks := .later }
def RetryChainsUptoCardSaid : Prop := Claim7.holds Tryd.pinned (.plain (OpenSpec.upto retryChainsSpec)) retryChainsUptoCard

/-- THE SECOND FORM's CARD OF 'wakemanlaw31.RetryNexts'. -/
def retryNextsUptoCard : Claim7 := { stood := { row := retryNextsUptoRow, standIns := [], harness := (true, "3918f9fbfc6a6ebdb49b3ecbe7adbc86efed8dd4972b5820ee1f47c86741a9cd"), looks := false }, kinds := [], alts := [], laidByText := true, laidKinds := [.wider], laidTests := true, laidLooks := .later }
def RetryNextsUptoCardSaid : Prop := Claim7.holds Tryd.pinned (.plain (OpenSpec.upto retryNextsSpec)) retryNextsUptoCard

/-- THE SECOND FORM's CARD OF 'wakemanlaw31.RetryBounds'. -/
def retryBoundsUptoCard : Claim7 := { stood := { row := retryBoundsUptoRow, standIns := [], harness := (true, "3918f9fbfc6a6ebdb49b3ecbe7adbc86efed8dd4972b5820ee1f47c86741a9cd"), looks := false }, kinds := [], alts := [], laidByText := true, laidKinds := [.wider], laidTests := true, laidLooks := .later }
def RetryBoundsUptoCardSaid : Prop := Claim7.holds Tryd.pinned (.plain (OpenSpec.upto retryBoundsSpec)) retryBoundsUptoCard

/-- THE SECOND FORM's CARD OF 'wakemanlaw31.RetryWithin'. -/
def retryWithinUptoCard : Claim7 := { stood := { row := retryWithinUptoRow, standIns := [], harness := (true, "3918f9fbfc6a6ebdb49b3ecbe7adbc86efed8dd4972b5820ee1f47c86741a9cd"), looks := false }, kinds := [], alts := [], laidByText := true, laidKinds := [.wider], laidTests := true, laidLooks := .later }
def RetryWithinUptoCardSaid : Prop := Claim7.holds Tryd.pinned (.plain (OpenSpec.upto retryWithinSpec)) retryWithinUptoCard

/-- THE SECOND FORM's CARD OF 'wakemanlaw31.RetrySteps'. -/
def retryStepsUptoCard : Claim7 := { stood := { row := retryStepsUptoRow, standIns := [], harness := (true, "3918f9fbfc6a6ebdb49b3ecbe7adbc86efed8dd4972b5820ee1f47c86741a9cd"), looks := false }, kinds := [], alts := [], laidByText := true, laidKinds := [.wider], laidTests := true, laidLooks := .later }
def RetryStepsUptoCardSaid : Prop := Claim7.holds Tryd.pinned (.plain (OpenSpec.upto retryStepsSpec)) retryStepsUptoCard

/-- THE SECOND FORM's CARD OF 'wakemanlaw31.RetryLatest'. -/
def retryLatestUptoCard : Claim7 := { stood := { row := retryLatestUptoRow, standIns := [], harness := (true, "3918f9fbfc6a6ebdb49b3ecbe7adbc86efed8dd4972b5820ee1f47c86741a9cd"), looks := false }, kinds := [], alts := [], laidByText := true, laidKinds := [.wider], laidTests := true, laidLooks := .later }
def RetryLatestUptoCardSaid : Prop := Claim7.holds Tryd.pinned (.plain (OpenSpec.upto retryLatestSpec)) retryLatestUptoCard

/-- THE SECOND FORM's CARD OF 'wakemanlaw31.RetryLeft'. -/
def retryLeftUptoCard : Claim7 := { stood := { row := retryLeftUptoRow, standIns := [], harness := (true, "3918f9fbfc6a6ebdb49b3ecbe7adbc86efed8dd4972b5820ee1f47c86741a9cd"), looks := false }, kinds := [], alts := [], laidByText := true, laidKinds := [.wider], laidTests := true, laidLooks := .later }
def RetryLeftUptoCardSaid : Prop := Claim7.holds Tryd.pinned (.plain (OpenSpec.upto retryLeftSpec)) retryLeftUptoCard

/-- THE SECOND FORM's CARD OF 'wakemanlaw31.RetryShifts'. -/
def retryShiftsUptoCard : Claim7 := { stood := { row := retryShiftsUptoRow, standIns := [], harness := (true, "3918f9fbfc6a6ebdb49b3ecbe7adbc86efed8dd4972b5820ee1f47c86741a9cd"), looks := false }, kinds := [], alts := [], laidByText := true, laidKinds := [.wider], laidTests := true, laidLooks := .later }
def RetryShiftsUptoCardSaid : Prop := Claim7.holds Tryd.pinned (.plain (OpenSpec.upto retryShiftsSpec)) retryShiftsUptoCard

/-- THE SECOND FORM's CARD OF 'wakemanlaw31.RetryErrors'. -/
def retryErrorsUptoCard : Claim7 := { stood := { row := retryErrorsUptoRow, standIns := [], harness := (true, "3918f9fbfc6a6ebdb49b3ecbe7adbc86efed8dd4972b5820ee1f47c86741a9cd"), looks := false }, kinds := [], alts := [], laidByText := true, laidKinds := [.wider], laidTests := true, laidLooks := .later }
def RetryErrorsUptoCardSaid : Prop := Claim7.holds Tryd.pinned (.plain (OpenSpec.upto retryErrorsSpec)) retryErrorsUptoCard
end Rows
end Go.Proofs.YtanipfenioaigaaDoor
