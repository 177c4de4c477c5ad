/-
  DERIVED. GIVEN WITH THE SEED: THE CARDS: each row of YtodijghpeikmoaaDoorRows.lean that lists a variable, with what it lists TIED to the program's text (the seventh form; the later family's looks); each row that meets fmt, with fmt's text TOLD by the authors' own Lean function (tested against real Go, not proved from fmt's source: count such statements apart). THE CARD IS WHAT COUNTS. Prove the row's statement (the work); the ties are given (YtodijghpeikmoaaDoorTie.lean); close each card by the builder's one call (the guide's Derived/Test/ToyasCard.lean, 'card_holds'). Laid BY PROGRAM, IN A SANDBOX (cutbox-door.mjs). By AI agents, Wed Nov 11 2026. No macro, syntax, notation, axiom, sorry.
-/
import Derived.Test.YtodijghpeikmoaaDoorRows
import GoSem.ClaimSeven
namespace Go.Proofs.YtodijghpeikmoaaDoor
namespace Rows

/-- THE TIED CARD OF 'wakemanlaw28.HashSplays'. -/
def hashSplaysCard : Claim7 := { stood := { row := hashSplaysRow, standIns := [], harness := (true, "6cde2d8f3b201be8495d2da6cb25a16bd6e8b07350b2fdd61e471c0467e8d238"), looks := false }, kinds := [], alts := [], laidByText := true, laidKinds := [.wider], laidTests := true, laidLooks := .later }
def HashSplaysCardSaid : Prop := Claim7.holds Tryd.pinned (.plain (OpenSpec.ofChange hashSplaysSpec)) hashSplaysCard

/-- THE TIED CARD OF 'wakemanlaw28.HashBuckets'. -/
def hashBucketsCard : Claim7 := { stood := { row := hashBucketsRow, standIns := [], harness := (true, "6cde2d8f3b201be8495d2da6cb25a16bd6e8b07350b2fdd61e471c0467e8d238"), looks := false }, kinds := [], alts := [], laidByText := true, laidKinds := [.wider], laidTests := true, laidLooks := .later }
def HashBucketsCardSaid : Prop := Claim7.holds Tryd.pinned (.plain (OpenSpec.ofChange hashBucketsSpec)) hashBucketsCard

/-- THE TIED CARD OF 'wakemanlaw28.HashParts'. -/
def hashPartsCard : Claim7 := { stood := { row := hashPartsRow, standIns := [], harness := (true, "6cde2d8f3b201be8495d2da6cb25a16bd6e8b07350b2fdd61e471c0467e8d238"), looks := false }, kinds := [], alts := [], laidByText := true, laidKinds := [.wider], laidTests := true, laidLooks := .later }
def HashPartsCardSaid : Prop := Claim7.holds Tryd.pinned (.plain (OpenSpec.ofChange hashPartsSpec)) hashPartsCard

/-- THE TIED CARD OF 'wakemanlaw28.HashBytes'. -/
def hashBytesCard : Claim7 := { stood := { row := hashBytesRow, standIns := [], harness := (true, "6cde2d8f3b201be8495d2da6cb25a16bd6e8b07350b2fdd61e471c0467e8d238"), looks := false }, kinds := [], alts := [], laidByText := true, laidKinds := [.wider], laidTests := true, laidLooks := .later }
def HashBytesCardSaid : Prop := Claim7.holds Tryd.pinned (.plain (OpenSpec.ofChange hashBytesSpec)) hashBytesCard

/-- THE TIED CARD OF 'wakemanlaw28.HashNumbers'. -/
def hashNumbersCard : Claim7 := { stood := { row := hashNumbersRow, standIns := [], harness := (true, "6cde2d8f3b201be8495d2da6cb25a16bd6e8b07350b2fdd61e471c0467e8d238"), looks := false }, kinds := [], alts := [], laidByText := true, laidKinds := [.wider], laidTests := true, laidLooks := .later }
def HashNumbersCardSaid : Prop := Claim7.holds Tryd.pinned (.plain (OpenSpec.ofChange hashNumbersSpec)) hashNumbersCard

/-- THE TIED CARD OF 'wakemanlaw28.HashRanges'. -/
def hashRangesCard : Claim7 := { stood := { row := hashRangesRow, standIns := [], harness := (true, "6cde2d8f3b201be8495d2da6cb25a16bd6e8b07350b2fdd61e471c0467e8d238"), looks := false }, kinds := [], alts := [], laidByText := true, laidKinds := [.wider], laidTests := true, laidLooks := .later }
def HashRangesCardSaid : Prop := Claim7.holds Tryd.pinned (.plain (OpenSpec.ofChange hashRangesSpec)) hashRangesCard

/-- THE TIED CARD OF 'wakemanlaw28.HashCounts'. -/
def hashCountsCard : Claim7 := { stood := { row := hashCountsRow, standIns := [], harness := (true, "6cde2d8f3b201be8495d2da6cb25a16bd6e8b07350b2fdd61e471c0467e8d238"), looks := false }, kinds := [], alts := [], laidByText := true, laidKinds := [.wider], laidTests := true, laidLooks := .later }
def HashCountsCardSaid : Prop := Claim7.holds Tryd.pinned (.plain (OpenSpec.ofChange hashCountsSpec)) hashCountsCard

/-- THE TIED CARD OF 'wakemanlaw28.HashKnown'. -/
def hashKnownCard : Claim7 := { stood := { row := hashKnownRow, standIns := [], harness := (true, "6cde2d8f3b201be8495d2da6cb25a16bd6e8b07350b2fdd61e471c0467e8d238"), looks := false }, kinds := [], alts := [], laidByText := true, laidKinds := [.wider], laidTests := true, laidLooks := .later }
def HashKnownCardSaid : Prop := Claim7.holds Tryd.pinned (.plain (OpenSpec.ofChange hashKnownSpec)) hashKnownCard

/-- THE TIED CARD OF 'wakemanlaw28.HashSums'. -/
def hashSumsCard : Claim7 := { stood := { row := hashSumsRow, standIns := [], harness := (true, "6cde2d8f3b201be8495d2da6cb25a16bd6e8b07350b2fdd61e471c0467e8d238"), looks := false }, kinds := [], alts := [], laidByText := true, laidKinds := [.wider], laidTests := true, laidLooks := .later }
def HashSumsCardSaid : Prop := Claim7.holds Tryd.pinned (.plain (OpenSpec.ofChange hashSumsSpec)) hashSumsCard

/-- THE TIED CARD OF 'wakemanlaw28.HashKeys'. -/
def hashKeysCard : Claim7 := { stood := { row := hashKeysRow, standIns := [], harness := (true, "6cde2d8f3b201be8495d2da6cb25a16bd6e8b07350b2fdd61e471c0467e8d238"), looks := false }, kinds := [], alts := [], laidByText := true, laidKinds := [.wider], laidTests := true, laidLooks := .later }
def HashKeysCardSaid : Prop := Claim7.holds Tryd.pinned (.plain (OpenSpec.ofChange hashKeysSpec)) hashKeysCard

/-- THE SECOND FORM's CARD OF 'wakemanlaw28.HashSplays'. -/
def hashSplaysUptoCard : Claim7 := { stood := { row := hashSplaysUptoRow, standIns := [], harness := (true, "6cde2d8f3b201be8495d2da6cb25a16bd6e8b07350b2fdd61e471c0467e8d238"), looks := false }, kinds := [], alts := [], laidByText := true, laidKinds := [.wider], laidTests := true, laidLooks := .later }
def HashSplaysUptoCardSaid : Prop := Claim7.holds Tryd.pinned (.plain (OpenSpec.upto hashSplaysSpec)) hashSplaysUptoCard

/-- THE SECOND FORM's CARD OF 'wakemanlaw28.HashBuckets'. -/
def hashBucketsUptoCard : Claim7 := { stood := { row := hashBucketsUptoRow, standIns := [], harness := (true, "6cde2d8f3b201be8495d2da6cb25a16bd6e8b07350b2fdd61e471c0467e8d238"), looks := false }, kinds := [], alts := [], laidByText := true, laidKinds := [.wider], laidTests := true, laidLooks := .later }
def HashBucketsUptoCardSaid : Prop := Claim7.holds Tryd.pinned (.plain (OpenSpec.upto hashBucketsSpec)) hashBucketsUptoCard

/-- THE SECOND FORM's CARD OF 'wakemanlaw28.HashParts'. -/
def hashPartsUptoCard : Claim7 := { stood := { row := hashPartsUptoRow, standIns := [], harness := (true, "6cde2d8f3b201be8495d2da6cb25a16bd6e8b07350b2fdd61e471c0467e8d238"), looks := false }, kinds := [], alts := [], laidByText := true, laidKinds := [.wider], laidTests := true, laidLooks := .later }
def HashPartsUptoCardSaid : Prop := Claim7.holds Tryd.pinned (.plain (OpenSpec.upto hashPartsSpec)) hashPartsUptoCard

/-- THE SECOND FORM's CARD OF 'wakemanlaw28.HashBytes'. -/
def hashBytesUptoCard : Claim7 := { stood := { row := hashBytesUptoRow, standIns := [], harness := (true, "6cde2d8f3b201be8495d2da6cb25a16bd6e8b07350b2fdd61e471c0467e8d238"), looks := false }, kinds := [], alts := [], laidByText := true, laidKinds := [.wider], laidTests := true, laidLooks := .later }
def HashBytesUptoCardSaid : Prop := Claim7.holds Tryd.pinned (.plain (OpenSpec.upto hashBytesSpec)) hashBytesUptoCard

/-- THE SECOND FORM's CARD OF 'wakemanlaw28.HashNumbers'. -/
def hashNumbersUptoCard : Claim7 := { stood := { row := hashNumbersUptoRow, standIns := [], harness := (true, "6cde2d8f3b201be8495d2da6cb25a16bd6e8b07350b2fdd61e471c0467e8d238"), looks := false }, kinds := [], alts := [], laidByText := true, laidKinds := [.wider], laidTests := true, laidLooks := .later }
def HashNumbersUptoCardSaid : Prop := Claim7.holds Tryd.pinned (.plain (OpenSpec.upto hashNumbersSpec)) hashNumbersUptoCard

/-- THE SECOND FORM's CARD OF 'wakemanlaw28.HashRanges'. -/
def hashRangesUptoCard : Claim7 := { stood := { row := hashRangesUptoRow, standIns := [], harness := (true, "6cde2d8f3b201be8495d2da6cb25a16bd6e8b07350b2fdd61e471c0467e8d238"), looks := false }, kinds := [], alts := [], laidByText := true, laidKinds := [.wider], laidTests := true, laidLooks := .later }
def HashRangesUptoCardSaid : Prop := Claim7.holds Tryd.pinned (.plain (OpenSpec.upto hashRangesSpec)) hashRangesUptoCard

/-- THE SECOND FORM's CARD OF 'wakemanlaw28.HashCounts'. -/
def hashCountsUptoCard : Claim7 := { stood := { row := hashCountsUptoRow, standIns := [], harness := (true, "6cde2d8f3b201be8495d2da6cb25a16bd6e8b07350b2fdd61e471c0467e8d238"), looks := false }, kinds := [], alts := [], laidByText := true, laidKinds := [.wider], laidTests := true, laidLooks := .later }
def HashCountsUptoCardSaid : Prop := Claim7.holds Tryd.pinned (.plain (OpenSpec.upto hashCountsSpec)) hashCountsUptoCard

/-- THE SECOND FORM's CARD OF 'wakemanlaw28.HashKnown'. -/
def hashKnownUptoCard : Claim7 := { stood := { row := hashKnownUptoRow, standIns := [], harness := (true, "6cde2d8f3b201be8495d2da6cb25a16bd6e8b07350b2fdd61e471c0467e8d238"), looks := false }, kinds := [], alts := [], laidByText := true, laidKinds := [.wider], laidTests := true, laidLooks := .later }
def HashKnownUptoCardSaid : Prop := Claim7.holds Tryd.pinned (.plain (OpenSpec.upto hashKnownSpec)) hashKnownUptoCard

/-- THE SECOND FORM's CARD OF 'wakemanlaw28.HashSums'. -/
def hashSumsUptoCard : Claim7 := { stood := { row := hashSumsUptoRow, standIns := [], harness := (true, "6cde2d8f3b201be8495d2da6cb25a16bd6e8b07350b2fdd61e471c0467e8d238"), looks := false }, kinds := [], alts := [], laidByText := true, laidKinds := [.wider], laidTests := true, laidLooks := .later }
def HashSumsUptoCardSaid : Prop := Claim7.holds Tryd.pinned (.plain (OpenSpec.upto hashSumsSpec)) hashSumsUptoCard

/-- THE SECOND FORM's CARD OF 'wakemanlaw28.HashKeys'. -/
def hashKeysUptoCard : Claim7 := { stood := { row := hashKeysUptoRow, standIns := [], harness := (true, "6cde2d8f3b201be8495d2da6cb25a16bd6e8b07350b2fdd61e471c0467e8d238"), looks := false }, kinds := [], alts := [], laidByText := true, laidKinds := [.wider], laidTests := true, laidLooks := .later }
def HashKeysUptoCardSaid : Prop := Claim7.holds Tryd.pinned (.plain (OpenSpec.upto hashKeysSpec)) hashKeysUptoCard
end Rows
end Go.Proofs.YtodijghpeikmoaaDoor
