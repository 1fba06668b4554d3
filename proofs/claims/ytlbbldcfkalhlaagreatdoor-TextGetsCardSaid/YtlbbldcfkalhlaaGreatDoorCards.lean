/-
  DERIVED. GIVEN WITH THE SEED: THE CARDS: each row of YtlbbldcfkalhlaaGreatDoorRows.lean that lists a variable, with what it lists TIED to the program's text (the seventh form; the later family's looks); each row that meets fmt, with fmt's text TOLD by the authors' own Lean function (tested against real Go, not proved from fmt's source: count such statements apart). THE CARD IS WHAT COUNTS. Prove the row's statement (the work); the ties are given (YtlbbldcfkalhlaaGreatDoorTie.lean); close each card by the builder's one call (the guide's Derived/Test/ToyasCard.lean, 'card_holds'). Laid BY PROGRAM, IN A SANDBOX (cutbox-door.mjs). By AI agents, Wed Nov 11 2026. No macro, syntax, notation, axiom, sorry.
-/
import Derived.Test.YtlbbldcfkalhlaaGreatDoorRows
import GoSem.ClaimSeven
namespace Go.Proofs.YtlbbldcfkalhlaaGreatDoor
namespace Rows

/-- THE TIED CARD OF 'ambrylaw20.TextPieces'. -/
def textPiecesCard : Claim7 := { stood := { row := textPiecesRow, standIns := [], harness := (true, "7ea850b47f5876478cabdf277432853c8c368571ad5c520624f5c8a5d7a8a947"), looks := true }, kinds := [], alts := [], laidByText := true, laidKinds := [.data, .data, .data, .data, .sentinel, .sentinel, .pinned], laidTests := true, laidLooks := .later }
def TextPiecesCardSaid : Prop := Claim7.holds Tryz.pinned (.plain (OpenSpec.ofChange textPiecesSpec)) textPiecesCard

/-- THE TIED CARD OF 'ambrylaw20.TextLong'. -/
def textLongCard : Claim7 := { stood := { row := textLongRow, standIns := [], harness := (true, "7ea850b47f5876478cabdf277432853c8c368571ad5c520624f5c8a5d7a8a947"), looks := true }, kinds := [], alts := [], laidByText := true, laidKinds := [.data, .data, .data, .data, .sentinel, .sentinel, .pinned], laidTests := true, laidLooks := .later }
def TextLongCardSaid : Prop := Claim7.holds Tryz.pinned (.plain (OpenSpec.ofChange textLongSpec)) textLongCard

/-- THE TIED CARD OF 'ambrylaw20.TextKeys'. -/
def textKeysCard : Claim7 := { stood := { row := textKeysRow, standIns := [], harness := (true, "7ea850b47f5876478cabdf277432853c8c368571ad5c520624f5c8a5d7a8a947"), looks := true }, kinds := [], alts := [], laidByText := true, laidKinds := [.data, .data, .data, .data, .sentinel, .sentinel, .pinned], laidTests := true, laidLooks := .later }
def TextKeysCardSaid : Prop := Claim7.holds Tryz.pinned (.plain (OpenSpec.ofChange textKeysSpec)) textKeysCard

/-- THE TIED CARD OF 'ambrylaw20.TextStores'. -/
def textStoresCard : Claim7 := { stood := { row := textStoresRow, standIns := [], harness := (true, "7ea850b47f5876478cabdf277432853c8c368571ad5c520624f5c8a5d7a8a947"), looks := true }, kinds := [], alts := [], laidByText := true, laidKinds := [.data, .data, .data, .data, .sentinel, .sentinel, .pinned], laidTests := true, laidLooks := .later }
def TextStoresCardSaid : Prop := Claim7.holds Tryz.pinned (.plain (OpenSpec.ofChange textStoresSpec)) textStoresCard

/-- THE TIED CARD OF 'ambrylaw20.TextNumbers'. -/
def textNumbersCard : Claim7 := { stood := { row := textNumbersRow, standIns := [], harness := (true, "7ea850b47f5876478cabdf277432853c8c368571ad5c520624f5c8a5d7a8a947"), looks := true }, kinds := [], alts := [], laidByText := true, laidKinds := [.data, .data, .data, .data, .sentinel, .sentinel, .pinned], laidTests := true, laidLooks := .later }
def TextNumbersCardSaid : Prop := Claim7.holds Tryz.pinned (.plain (OpenSpec.ofChange textNumbersSpec)) textNumbersCard

/-- THE TIED CARD OF 'ambrylaw20.TextGets'. -/
def textGetsCard : Claim7 := { stood := { row := textGetsRow, standIns := [], harness := (true, "7ea850b47f5876478cabdf277432853c8c368571ad5c520624f5c8a5d7a8a947"), looks := true }, kinds := [], alts := [], laidByText := true, laidKinds := [.data, .data, .data, .data, .sentinel, .sentinel, .pinned], laidTests := true, laidLooks := .later }
def TextGetsCardSaid : Prop := Claim7.holds Tryz.pinned (.plain (OpenSpec.ofChange textGetsSpec)) textGetsCard

/-- THE SECOND FORM's CARD OF 'ambrylaw20.TextPieces'. -/
def textPiecesUptoCard : Claim7 := { stood := { row := textPiecesUptoRow, standIns := [], harness := (true, "7ea850b47f5876478cabdf277432853c8c368571ad5c520624f5c8a5d7a8a947"), looks := true }, kinds := [], alts := [], laidByText := true, laidKinds := [.data, .data, .data, .data, .sentinel, .sentinel, .pinned], laidTests := true, laidLooks := .later }
def TextPiecesUptoCardSaid : Prop := Claim7.holds Tryz.pinned (.plain (OpenSpec.upto textPiecesSpec)) textPiecesUptoCard

/-- THE SECOND FORM's CARD OF 'ambrylaw20.TextLong'. -/
def textLongUptoCard : Claim7 := { stood := { row := textLongUptoRow, standIns := [], harness := (true, "7ea850b47f5876478cabdf277432853c8c368571ad5c520624f5c8a5d7a8a947"), looks := true }, kinds := [], alts := [], laidByText := true, laidKinds := [.data, .data, .data, .data, .sentinel, .sentinel, .pinned], laidTests := true, laidLooks := .later }
def TextLongUptoCardSaid : Prop := Claim7.holds Tryz.pinned (.plain (OpenSpec.upto textLongSpec)) textLongUptoCard

/-- THE SECOND FORM's CARD OF 'ambrylaw20.TextKeys'. -/
def textKeysUptoCard : Claim7 := { stood := { row := textKeysUptoRow, standIns := [], harness := (true, "7ea850b47f5876478cabdf277432853c8c368571ad5c520624f5c8a5d7a8a947"), looks := true }, kinds := [], alts := [], laidByText := true, laidKinds := [.data, .data, .data, .data, .sentinel, .sentinel, .pinned], laidTests := true, laidLooks := .later }
def TextKeysUptoCardSaid : Prop := Claim7.holds Tryz.pinned (.plain (OpenSpec.upto textKeysSpec)) textKeysUptoCard

/-- THE SECOND FORM's CARD OF 'ambrylaw20.TextStores'. -/
def textStoresUptoCard : Claim7 := { stood := { row := textStoresUptoRow, standIns := [], harness := (true, "7ea850b47f5876478cabdf277432853c8c368571ad5c520624f5c8a5d7a8a947"), looks := true }, kinds := [], alts := [], laidByText := true, laidKinds := [.data, .data, .data, .data, .sentinel, .sentinel, .pinned], laidTests := true, laidLooks := .later }
def TextStoresUptoCardSaid : Prop := Claim7.holds Tryz.pinned (.plain (OpenSpec.upto textStoresSpec)) textStoresUptoCard

/-- THE SECOND FORM's CARD OF 'ambrylaw20.TextNumbers'. -/
def textNumbersUptoCard : Claim7 := { stood := { row := textNumbersUptoRow, standIns := [], harness := (true, "7ea850b47f5876478cabdf277432853c8c368571ad5c520624f5c8a5d7a8a947"), looks := true }, kinds := [], alts := [], laidByText := true, laidKinds := [.data, .data, .data, .data, .sentinel, .sentinel, .pinned], laidTests := true, laidLooks := .later }
def TextNumbersUptoCardSaid : Prop := Claim7.holds Tryz.pinned (.plain (OpenSpec.upto textNumbersSpec)) textNumbersUptoCard

/-- THE SECOND FORM's CARD OF 'ambrylaw20.TextGets'. -/
def textGetsUptoCard : Claim7 := { stood := { row := textGetsUptoRow, standIns := [], harness := (true, "7ea850b47f5876478cabdf277432853c8c368571ad5c520624f5c8a5d7a8a947"), looks := true }, kinds := [], alts := [], laidByText := true, laidKinds := [.data, .data, .data, .data, .sentinel, .sentinel, .pinned], laidTests := true, laidLooks := .later }
def TextGetsUptoCardSaid : Prop := Claim7.holds Tryz.pinned (.plain (OpenSpec.upto textGetsSpec)) textGetsUptoCard
end Rows
end Go.Proofs.YtlbbldcfkalhlaaGreatDoor
