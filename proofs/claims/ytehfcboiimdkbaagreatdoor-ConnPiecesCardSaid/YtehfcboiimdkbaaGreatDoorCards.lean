/-
  DERIVED. GIVEN WITH THE SEED: THE CARDS: each row of YtehfcboiimdkbaaGreatDoorRows.lean that lists a variable, with what it lists TIED to the program's text (the seventh form; the later family's looks); each row that meets fmt, with fmt's text TOLD by the authors' own Lean function (tested against real Go, not proved from fmt's source: count such statements apart). THE CARD IS WHAT COUNTS. Prove the row's statement (the work); the ties are given (YtehfcboiimdkbaaGreatDoorTie.lean); close each card by the builder's one call (the guide's Derived/Test/ToyasCard.lean, 'card_holds'). Laid BY PROGRAM, IN A SANDBOX (cutbox-door.mjs). By AI agents, Wed Nov 11 2026. No macro, syntax, notation, axiom, sorry.
-/
import Derived.Test.YtehfcboiimdkbaaGreatDoorRows
import GoSem.ClaimSeven
namespace Go.Proofs.YtehfcboiimdkbaaGreatDoor
namespace Rows

/-- THE TIED CARD OF 'ambrylaw22.ConnSkips'. -/
def connSkipsCard : Claim7 := { stood := { row := connSkipsRow, standIns := [], harness := (true, "96632377f4ee624dc4c17c0b8dd61dd50c77df6d0ff30a6b9ec57c2d64630b25"), looks := true }, kinds := [], alts := [], laidByText := true, laidKinds := [.data, .data, .data, .data, .sentinel, .sentinel, .pinned], laidTests := true, laidLooks := .later }
def ConnSkipsCardSaid : Prop := Claim7.holds Tryz.pinned (.plain (OpenSpec.ofChange connSkipsSpec)) connSkipsCard

/-- THE TIED CARD OF 'ambrylaw22.ConnWaits'. -/
def connWaitsCard : Claim7 := { stood := { row := connWaitsRow, standIns := [], harness := (true, "96632377f4ee624dc4c17c0b8dd61dd50c77df6d0ff30a6b9ec57c2d64630b25"), looks := true }, kinds := [], alts := [], laidByText := true, laidKinds := [.data, .data, .data, .data, .sentinel, .sentinel, .pinned], laidTests := true, laidLooks := .later }
def ConnWaitsCardSaid : Prop := Claim7.holds Tryz.pinned (.plain (OpenSpec.ofChange connWaitsSpec)) connWaitsCard

/-- THE TIED CARD OF 'ambrylaw22.ConnPieces'. -/
def connPiecesCard : Claim7 := { stood := { row := connPiecesRow, standIns := [], harness := (true, "96632377f4ee624dc4c17c0b8dd61dd50c77df6d0ff30a6b9ec57c2d64630b25"), looks := true }, kinds := [], alts := [], laidByText := true, laidKinds := [.data, .data, .data, .data, .sentinel, .sentinel, .pinned], laidTests := true, laidLooks := .later }
def ConnPiecesCardSaid : Prop := Claim7.holds Tryz.pinned (.plain (OpenSpec.ofChange connPiecesSpec)) connPiecesCard

/-- THE TIED CARD OF 'ambrylaw22.ConnWrites'. -/
def connWritesCard : Claim7 := { stood := { row := connWritesRow, standIns := [], harness := (true, "96632377f4ee624dc4c17c0b8dd61dd50c77df6d0ff30a6b9ec57c2d64630b25"), looks := true }, kinds := [], alts := [], laidByText := true, laidKinds := [.data, .data, .data, .data, .sentinel, .sentinel, .pinned], laidTests := true, laidLooks := .later }
def ConnWritesCardSaid : Prop := Claim7.holds Tryz.pinned (.plain (OpenSpec.ofChange connWritesSpec)) connWritesCard

/-- THE TIED CARD OF 'ambrylaw22.ConnFull'. -/
def connFullCard : Claim7 := { stood := { row := connFullRow, standIns := [], harness := (true, "96632377f4ee624dc4c17c0b8dd61dd50c77df6d0ff30a6b9ec57c2d64630b25"), looks := true }, kinds := [], alts := [], laidByText := true, laidKinds := [.data, .data, .data, .data, .sentinel, .sentinel, .pinned], laidTests := true, laidLooks := .later }
def ConnFullCardSaid : Prop := Claim7.holds Tryz.pinned (.plain (OpenSpec.ofChange connFullSpec)) connFullCard

/-- THE TIED CARD OF 'ambrylaw22.ConnEnds'. -/
def connEndsCard : Claim7 := { stood := { row := connEndsRow, standIns := [], harness := (true, "96632377f4ee624dc4c17c0b8dd61dd50c77df6d0ff30a6b9ec57c2d64630b25"), looks := true }, kinds := [], alts := [], laidByText := true, laidKinds := [.data, .data, .data, .data, .sentinel, .sentinel, .pinned], laidTests := true, laidLooks := .later }
def ConnEndsCardSaid : Prop := Claim7.holds Tryz.pinned (.plain (OpenSpec.ofChange connEndsSpec)) connEndsCard

/-- THE SECOND FORM's CARD OF 'ambrylaw22.ConnSkips'. -/
def connSkipsUptoCard : Claim7 := { stood := { row := connSkipsUptoRow, standIns := [], harness := (true, "96632377f4ee624dc4c17c0b8dd61dd50c77df6d0ff30a6b9ec57c2d64630b25"), looks := true }, kinds := [], alts := [], laidByText := true, laidKinds := [.data, .data, .data, .data, .sentinel, .sentinel, .pinned], laidTests := true, laidLooks := .later }
def ConnSkipsUptoCardSaid : Prop := Claim7.holds Tryz.pinned (.plain (OpenSpec.upto connSkipsSpec)) connSkipsUptoCard

/-- THE SECOND FORM's CARD OF 'ambrylaw22.ConnWaits'. -/
def connWaitsUptoCard : Claim7 := { stood := { row := connWaitsUptoRow, standIns := [], harness := (true, "96632377f4ee624dc4c17c0b8dd61dd50c77df6d0ff30a6b9ec57c2d64630b25"), looks := true }, kinds := [], alts := [], laidByText := true, laidKinds := [.data, .data, .data, .data, .sentinel, .sentinel, .pinned], laidTests := true, laidLooks := .later }
def ConnWaitsUptoCardSaid : Prop := Claim7.holds Tryz.pinned (.plain (OpenSpec.upto connWaitsSpec)) connWaitsUptoCard

/-- THE SECOND FORM's CARD OF 'ambrylaw22.ConnPieces'. -/
def connPiecesUptoCard : Claim7 := { stood := { row := connPiecesUptoRow, standIns := [], harness := (true, "96632377f4ee624dc4c17c0b8dd61dd50c77df6d0ff30a6b9ec57c2d64630b25"), looks := true }, kinds := [], alts := [], laidByText := true, laidKinds := [.data, .data, .data, .data, .sentinel, .sentinel, .pinned], laidTests := true, laidLooks := .later }
def ConnPiecesUptoCardSaid : Prop := Claim7.holds Tryz.pinned (.plain (OpenSpec.upto connPiecesSpec)) connPiecesUptoCard

/-- THE SECOND FORM's CARD OF 'ambrylaw22.ConnWrites'. -/
def connWritesUptoCard : Claim7 := { stood := { row := connWritesUptoRow, standIns := [], harness := (true, "96632377f4ee624dc4c17c0b8dd61dd50c77df6d0ff30a6b9ec57c2d64630b25"), looks := true }, kinds := [], alts := [], laidByText := true, laidKinds := [.data, .data, .data, .data, .sentinel, .sentinel, .pinned], laidTests := true, laidLooks := .later }
def ConnWritesUptoCardSaid : Prop := Claim7.holds Tryz.pinned (.plain (OpenSpec.upto connWritesSpec)) connWritesUptoCard

/-- THE SECOND FORM's CARD OF 'ambrylaw22.ConnFull'. -/
def connFullUptoCard : Claim7 := { stood := { row := connFullUptoRow, standIns := [], harness := (true, "96632377f4ee624dc4c17c0b8dd61dd50c77df6d0ff30a6b9ec57c2d64630b25"), looks := true }, kinds := [], alts := [], laidByText := true, laidKinds := [.data, .data, .data, .data, .sentinel, .sentinel, .pinned], laidTests := true, laidLooks := .later }
def ConnFullUptoCardSaid : Prop := Claim7.holds Tryz.pinned (.plain (OpenSpec.upto connFullSpec)) connFullUptoCard

/-- THE SECOND FORM's CARD OF 'ambrylaw22.ConnEnds'. -/
def connEndsUptoCard : Claim7 := { stood := { row := connEndsUptoRow, standIns := [], harness := (true, "96632377f4ee624dc4c17c0b8dd61dd50c77df6d0ff30a6b9ec57c2d64630b25"), looks := true }, kinds := [], alts := [], laidByText := true, laidKinds := [.data, .data, .data, .data, .sentinel, .sentinel, .pinned], laidTests := true, laidLooks := .later }
def ConnEndsUptoCardSaid : Prop := Claim7.holds Tryz.pinned (.plain (OpenSpec.upto connEndsSpec)) connEndsUptoCard
end Rows
end Go.Proofs.YtehfcboiimdkbaaGreatDoor
