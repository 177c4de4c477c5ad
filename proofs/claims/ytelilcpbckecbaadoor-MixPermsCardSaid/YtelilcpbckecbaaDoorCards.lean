/-
  DERIVED. GIVEN WITH THE SEED: THE CARDS: each row of YtelilcpbckecbaaDoorRows.lean that lists a variable, with what it lists TIED to the program's text (the seventh form; the later family's looks); each row that meets fmt, with fmt's text TOLD by the authors' own Lean function (tested against real Go, not proved from fmt's source: count such statements apart). THE CARD IS WHAT COUNTS. Prove the row's statement (the work); the ties are given (YtelilcpbckecbaaDoorTie.lean); close each card by the builder's one call (the guide's Derived/Test/ToyasCard.lean, 'card_holds'). Laid BY PROGRAM, IN A SANDBOX (cutbox-door.mjs). By AI agents, Wed Nov 11 2026. No macro, syntax, notation, axiom, sorry.
-/
import Derived.Test.YtelilcpbckecbaaDoorRows
import GoSem.ClaimSeven
namespace Go.Proofs.YtelilcpbckecbaaDoor
namespace Rows

/-- THE TIED CARD OF 'wakemanlaw27.MixPerms'. -/
def mixPermsCard : Claim7 := { stood := { row := mixPermsRow, standIns := [], harness := (true, "7d6f4d14adff1a782af58fcdab9ca954b5a949c0deac3b51562502668df5c07e"), looks := false }, kinds := [], alts := [], laidByText := true, laidKinds := [.wider], laidTests := true, laidLooks := .later }
def MixPermsCardSaid : Prop := Claim7.holds Tryd.pinned (.plain (OpenSpec.ofChange mixPermsSpec)) mixPermsCard

/-- THE TIED CARD OF 'wakemanlaw27.MixBelows'. -/
def mixBelowsCard : Claim7 := { stood := { row := mixBelowsRow, standIns := [], harness := (true, "7d6f4d14adff1a782af58fcdab9ca954b5a949c0deac3b51562502668df5c07e"), looks := false }, kinds := [], alts := [], laidByText := true, laidKinds := [.wider], laidTests := true, laidLooks := .later }
def MixBelowsCardSaid : Prop := Claim7.holds Tryd.pinned (.plain (OpenSpec.ofChange mixBelowsSpec)) mixBelowsCard

/-- THE TIED CARD OF 'wakemanlaw27.MixPerm'. -/
def mixPermCard : Claim7 := { stood := { row := mixPermRow, standIns := [], harness := (true, "7d6f4d14adff1a782af58fcdab9ca954b5a949c0deac3b51562502668df5c07e"), looks := false }, kinds := [], alts := [], laidByText := true, laidKinds := [.wider], laidTests := true, laidLooks := .later }
def MixPermCardSaid : Prop := Claim7.holds Tryd.pinned (.plain (OpenSpec.ofChange mixPermSpec)) mixPermCard

/-- THE TIED CARD OF 'wakemanlaw27.MixPlaces'. -/
def mixPlacesCard : Claim7 := { stood := { row := mixPlacesRow, standIns := [], harness := (true, "7d6f4d14adff1a782af58fcdab9ca954b5a949c0deac3b51562502668df5c07e"), looks := false }, kinds := [], alts := [], laidByText := true, laidKinds := [.wider], laidTests := true, laidLooks := .later }
def MixPlacesCardSaid : Prop := Claim7.holds Tryd.pinned (.plain (OpenSpec.ofChange mixPlacesSpec)) mixPlacesCard

/-- THE TIED CARD OF 'wakemanlaw27.MixSources'. -/
def mixSourcesCard : Claim7 := { stood := { row := mixSourcesRow, standIns := [], harness := (true, "7d6f4d14adff1a782af58fcdab9ca954b5a949c0deac3b51562502668df5c07e"), looks := false }, kinds := [], alts := [], laidByText := true, laidKinds := [.wider], laidTests := true, laidLooks := .later }
def MixSourcesCardSaid : Prop := Claim7.holds Tryd.pinned (.plain (OpenSpec.ofChange mixSourcesSpec)) mixSourcesCard

/-- THE TIED CARD OF 'wakemanlaw27.MixNil'. -/
def mixNilCard : Claim7 := { stood := { row := mixNilRow, standIns := [], harness := (true, "7d6f4d14adff1a782af58fcdab9ca954b5a949c0deac3b51562502668df5c07e"), looks := false }, kinds := [], alts := [], laidByText := true, laidKinds := [.wider], laidTests := true, laidLooks := .later }
def MixNilCardSaid : Prop := Claim7.holds Tryd.pinned (.plain (OpenSpec.ofChange mixNilSpec)) mixNilCard

/-- THE TIED CARD OF 'wakemanlaw27.MixAgain'. -/
def mixAgainCard : Claim7 := { stood := { row := mixAgainRow, standIns := [], harness := (true, "7d6f4d14adff1a782af58fcdab9ca954b5a949c0deac3b51562502668df5c07e"), looks := false }, kinds := [], alts := [], laidByText := true, laidKinds := [.wider], laidTests := true, laidLooks := .later }
def MixAgainCardSaid : Prop := Claim7.holds Tryd.pinned (.plain (OpenSpec.ofChange mixAgainSpec)) mixAgainCard

/-- THE TIED CARD OF 'wakemanlaw27.MixNumbers'. -/
def mixNumbersCard : Claim7 := { stood := { row := mixNumbersRow, standIns := [], harness := (true, "7d6f4d14adff1a782af58fcdab9ca954b5a949c0deac3b51562502668df5c07e"), looks := false }, kinds := [], alts := [], laidByText := true, laidKinds := [.wider], laidTests := true, laidLooks := .later }
def MixNumbersCardSaid : Prop := Claim7.holds Tryd.pinned (.plain (OpenSpec.ofChange mixNumbersSpec)) mixNumbersCard

/-- THE TIED CARD OF 'wakemanlaw27.MixReturns'. -/
def mixReturnsCard : Claim7 := { stood := { row := mixReturnsRow, standIns := [], harness := (true, "7d6f4d14adff1a782af58fcdab9ca954b5a949c0deac3b51562502668df5c07e"), looks := false }, kinds := [], alts := [], laidByText := true, laidKinds := [.wider], laidTests := true, laidLooks := .later }
def MixReturnsCardSaid : Prop := Claim7.holds Tryd.pinned (.plain (OpenSpec.ofChange mixReturnsSpec)) mixReturnsCard

/-- THE TIED CARD OF 'wakemanlaw27.MixKnown'. -/
def mixKnownCard : Claim7 := { stood := { row := mixKnownRow, standIns := [], harness := (true, "7d6f4d14adff1a782af58fcdab9ca954b5a949c0deac3b51562502668df5c07e"), looks := false }, kinds := [], alts := [], laidByText := true, laidKinds := [.wider], laidTests := true, laidLooks := .later }
def MixKnownCardSaid : Prop := Claim7.holds Tryd.pinned (.plain (OpenSpec.ofChange mixKnownSpec)) mixKnownCard

/-- THE SECOND FORM's CARD OF 'wakemanlaw27.MixPerms'. -/
def mixPermsUptoCard : Claim7 := { stood := { row := mixPermsUptoRow, standIns := [], harness := (true, "7d6f4d14adff1a782af58fcdab9ca954b5a949c0deac3b51562502668df5c07e"), looks := false }, kinds := [], alts := [], laidByText := true, laidKinds := [.wider], laidTests := true, laidLooks := .later }
def MixPermsUptoCardSaid : Prop := Claim7.holds Tryd.pinned (.plain (OpenSpec.upto mixPermsSpec)) mixPermsUptoCard

/-- THE SECOND FORM's CARD OF 'wakemanlaw27.MixBelows'. -/
def mixBelowsUptoCard : Claim7 := { stood := { row := mixBelowsUptoRow, standIns := [], harness := (true, "7d6f4d14adff1a782af58fcdab9ca954b5a949c0deac3b51562502668df5c07e"), looks := false }, kinds := [], alts := [], laidByText := true, laidKinds := [.wider], laidTests := true, laidLooks := .later }
def MixBelowsUptoCardSaid : Prop := Claim7.holds Tryd.pinned (.plain (OpenSpec.upto mixBelowsSpec)) mixBelowsUptoCard

/-- THE SECOND FORM's CARD OF 'wakemanlaw27.MixPerm'. -/
def mixPermUptoCard : Claim7 := { stood := { row := mixPermUptoRow, standIns := [], harness := (true, "7d6f4d14adff1a782af58fcdab9ca954b5a949c0deac3b51562502668df5c07e"), looks := false }, kinds := [], alts := [], laidByText := true, laidKinds := [.wider], laidTests := true, laidLooks := .later }
def MixPermUptoCardSaid : Prop := Claim7.holds Tryd.pinned (.plain (OpenSpec.upto mixPermSpec)) mixPermUptoCard

/-- THE SECOND FORM's CARD OF 'wakemanlaw27.MixPlaces'. -/
def mixPlacesUptoCard : Claim7 := { stood := { row := mixPlacesUptoRow, standIns := [], harness := (true, "7d6f4d14adff1a782af58fcdab9ca954b5a949c0deac3b51562502668df5c07e"), looks := false }, kinds := [], alts := [], laidByText := true, laidKinds := [.wider], laidTests := true, laidLooks := .later }
def MixPlacesUptoCardSaid : Prop := Claim7.holds Tryd.pinned (.plain (OpenSpec.upto mixPlacesSpec)) mixPlacesUptoCard

/-- THE SECOND FORM's CARD OF 'wakemanlaw27.MixSources'. -/
def mixSourcesUptoCard : Claim7 := { stood := { row := mixSourcesUptoRow, standIns := [], harness := (true, "7d6f4d14adff1a782af58fcdab9ca954b5a949c0deac3b51562502668df5c07e"), looks := false }, kinds := [], alts := [], laidByText := true, laidKinds := [.wider], laidTests := true, laidLooks := .later }
def MixSourcesUptoCardSaid : Prop := Claim7.holds Tryd.pinned (.plain (OpenSpec.upto mixSourcesSpec)) mixSourcesUptoCard

/-- THE SECOND FORM's CARD OF 'wakemanlaw27.MixNil'. -/
def mixNilUptoCard : Claim7 := { stood := { row := mixNilUptoRow, standIns := [], harness := (true, "7d6f4d14adff1a782af58fcdab9ca954b5a949c0deac3b51562502668df5c07e"), looks := false }, kinds := [], alts := [], laidByText := true, laidKinds := [.wider], laidTests := true, laidLooks := .later }
def MixNilUptoCardSaid : Prop := Claim7.holds Tryd.pinned (.plain (OpenSpec.upto mixNilSpec)) mixNilUptoCard

/-- THE SECOND FORM's CARD OF 'wakemanlaw27.MixAgain'. -/
def mixAgainUptoCard : Claim7 := { stood := { row := mixAgainUptoRow, standIns := [], harness := (true, "7d6f4d14adff1a782af58fcdab9ca954b5a949c0deac3b51562502668df5c07e"), looks := false }, kinds := [], alts := [], laidByText := true, laidKinds := [.wider], laidTests := true, laidLooks := .later }
def MixAgainUptoCardSaid : Prop := Claim7.holds Tryd.pinned (.plain (OpenSpec.upto mixAgainSpec)) mixAgainUptoCard

/-- THE SECOND FORM's CARD OF 'wakemanlaw27.MixNumbers'. -/
def mixNumbersUptoCard : Claim7 := { stood := { row := mixNumbersUptoRow, standIns := [], harness := (true, "7d6f4d14adff1a782af58fcdab9ca954b5a949c0deac3b51562502668df5c07e"), looks := false }, kinds := [], alts := [], laidByText := true, laidKinds := [.wider], laidTests := true, laidLooks := .later }
def MixNumbersUptoCardSaid : Prop := Claim7.holds Tryd.pinned (.plain (OpenSpec.upto mixNumbersSpec)) mixNumbersUptoCard

/-- THE SECOND FORM's CARD OF 'wakemanlaw27.MixReturns'. -/
def mixReturnsUptoCard : Claim7 := { stood := { row := mixReturnsUptoRow, standIns := [], harness := (true, "7d6f4d14adff1a782af58fcdab9ca954b5a949c0deac3b51562502668df5c07e"), looks := false }, kinds := [], alts := [], laidByText := true, laidKinds := [.wider], laidTests := true, laidLooks := .later }
def MixReturnsUptoCardSaid : Prop := Claim7.holds Tryd.pinned (.plain (OpenSpec.upto mixReturnsSpec)) mixReturnsUptoCard

/-- THE SECOND FORM's CARD OF 'wakemanlaw27.MixKnown'. -/
def mixKnownUptoCard : Claim7 := { stood := { row := mixKnownUptoRow, standIns := [], harness := (true, "7d6f4d14adff1a782af58fcdab9ca954b5a949c0deac3b51562502668df5c07e"), looks := false }, kinds := [], alts := [], laidByText := true, laidKinds := [.wider], laidTests := true, laidLooks := .later }
def MixKnownUptoCardSaid : Prop := Claim7.holds Tryd.pinned (.plain (OpenSpec.upto mixKnownSpec)) mixKnownUptoCard
end Rows
end Go.Proofs.YtelilcpbckecbaaDoor
