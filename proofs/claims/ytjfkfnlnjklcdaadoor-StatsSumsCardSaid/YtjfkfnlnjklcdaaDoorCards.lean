/-
  DERIVED. GIVEN WITH THE SEED: THE CARDS: each row of YtjfkfnlnjklcdaaDoorRows.lean that lists a variable, with what it lists TIED to the program's text (the seventh form; the later family's looks); each row that meets fmt, with fmt's text TOLD by the authors' own Lean function (tested against real Go, not proved from fmt's source: count such statements apart). THE CARD IS WHAT COUNTS. Prove the row's statement (the work); the ties are given (YtjfkfnlnjklcdaaDoorTie.lean); close each card by the builder's one call (the guide's Derived/Test/ToyasCard.lean, 'card_holds'). Laid BY PROGRAM, IN A SANDBOX (cutbox-door.mjs). By AI agents, Wed Nov 11 2026. No macro, syntax, notation, axiom, sorry.
-/
import Derived.Test.YtjfkfnlnjklcdaaDoorRows
import GoSem.ClaimSeven
namespace Go.Proofs.YtjfkfnlnjklcdaaDoor
namespace Rows

/-- THE TIED CARD OF 'ambrylaw19.StatsPlays'. -/
def statsPlaysCard : Claim7 := { stood := { row := statsPlaysRow, standIns := [], harness := (true, "9bf365950e0652d3886349e55ed504b6f82ed2c3b33f8676deadd0a2e2d6bb61"), looks := true }, kinds := [], alts := [], laidByText := true, laidKinds := [.data, .data, .data], laidTests := true, laidLooks := .later }
def StatsPlaysCardSaid : Prop := Claim7.holds Tryd.pinned (.plain (OpenSpec.ofChange statsPlaysSpec)) statsPlaysCard

/-- THE TIED CARD OF 'ambrylaw19.StatsResets'. -/
def statsResetsCard : Claim7 := { stood := { row := statsResetsRow, standIns := [], harness := (true, "9bf365950e0652d3886349e55ed504b6f82ed2c3b33f8676deadd0a2e2d6bb61"), looks := true }, kinds := [], alts := [], laidByText := true, laidKinds := [.data, .data, .data], laidTests := true, laidLooks := .later }
def StatsResetsCardSaid : Prop := Claim7.holds Tryd.pinned (.plain (OpenSpec.ofChange statsResetsSpec)) statsResetsCard

/-- THE TIED CARD OF 'ambrylaw01.NumsParses'. -/
def numsParsesCard : Claim7 := { stood := { row := numsParsesRow, standIns := [], harness := (true, "9bf365950e0652d3886349e55ed504b6f82ed2c3b33f8676deadd0a2e2d6bb61"), looks := true }, kinds := [], alts := [], laidByText := true, laidKinds := [.data, .data, .data, .data, .sentinel, .sentinel, .pinned], laidTests := true, laidLooks := .later }
def NumsParsesCardSaid : Prop := Claim7.holds Tryd.pinned (.plain (OpenSpec.ofChange numsParsesSpec)) numsParsesCard

/-- THE TIED CARD OF 'ambrylaw01.NumsTexts'. -/
def numsTextsCard : Claim7 := { stood := { row := numsTextsRow, standIns := [], harness := (true, "9bf365950e0652d3886349e55ed504b6f82ed2c3b33f8676deadd0a2e2d6bb61"), looks := true }, kinds := [], alts := [], laidByText := true, laidKinds := [.data, .data, .data, .data, .sentinel, .sentinel, .pinned], laidTests := true, laidLooks := .later }
def NumsTextsCardSaid : Prop := Claim7.holds Tryd.pinned (.plain (OpenSpec.ofChange numsTextsSpec)) numsTextsCard

/-- THE TIED CARD OF 'ambrylaw01.NumsOrder'. -/
def numsOrderCard : Claim7 := { stood := { row := numsOrderRow, standIns := [], harness := (true, "9bf365950e0652d3886349e55ed504b6f82ed2c3b33f8676deadd0a2e2d6bb61"), looks := true }, kinds := [], alts := [], laidByText := true, laidKinds := [.data, .data, .data, .data, .sentinel, .sentinel, .pinned], laidTests := true, laidLooks := .later }
def NumsOrderCardSaid : Prop := Claim7.holds Tryd.pinned (.plain (OpenSpec.ofChange numsOrderSpec)) numsOrderCard

/-- THE TIED CARD OF 'ambrylaw01.NumsSums'. -/
def numsSumsCard : Claim7 := { stood := { row := numsSumsRow, standIns := [], harness := (true, "9bf365950e0652d3886349e55ed504b6f82ed2c3b33f8676deadd0a2e2d6bb61"), looks := true }, kinds := [], alts := [], laidByText := true, laidKinds := [.data, .data, .data, .data, .sentinel, .sentinel, .pinned], laidTests := true, laidLooks := .later }
def NumsSumsCardSaid : Prop := Claim7.holds Tryd.pinned (.plain (OpenSpec.ofChange numsSumsSpec)) numsSumsCard

/-- THE TIED CARD OF 'ambrylaw01.NumsUndo'. -/
def numsUndoCard : Claim7 := { stood := { row := numsUndoRow, standIns := [], harness := (true, "9bf365950e0652d3886349e55ed504b6f82ed2c3b33f8676deadd0a2e2d6bb61"), looks := true }, kinds := [], alts := [], laidByText := true, laidKinds := [.data, .data, .data, .data, .sentinel, .sentinel, .pinned], laidTests := true, laidLooks := .later }
def NumsUndoCardSaid : Prop := Claim7.holds Tryd.pinned (.plain (OpenSpec.ofChange numsUndoSpec)) numsUndoCard

/-- THE TIED CARD OF 'ambrylaw01.NumsSigned'. -/
def numsSignedCard : Claim7 := { stood := { row := numsSignedRow, standIns := [], harness := (true, "9bf365950e0652d3886349e55ed504b6f82ed2c3b33f8676deadd0a2e2d6bb61"), looks := true }, kinds := [], alts := [], laidByText := true, laidKinds := [.data, .data, .data, .data, .sentinel, .sentinel, .pinned], laidTests := true, laidLooks := .later }
def NumsSignedCardSaid : Prop := Claim7.holds Tryd.pinned (.plain (OpenSpec.ofChange numsSignedSpec)) numsSignedCard

/-- THE TIED CARD OF 'ambrylaw01.NumsBack'. -/
def numsBackCard : Claim7 := { stood := { row := numsBackRow, standIns := [], harness := (true, "9bf365950e0652d3886349e55ed504b6f82ed2c3b33f8676deadd0a2e2d6bb61"), looks := true }, kinds := [], alts := [], laidByText := true, laidKinds := [.data, .data, .data, .data, .sentinel, .sentinel, .pinned], laidTests := true, laidLooks := .later }
def NumsBackCardSaid : Prop := Claim7.holds Tryd.pinned (.plain (OpenSpec.ofChange numsBackSpec)) numsBackCard

/-- THE TIED CARD OF 'ambrylaw01.NumsBad'. -/
def numsBadCard : Claim7 := { stood := { row := numsBadRow, standIns := [], harness := (true, "9bf365950e0652d3886349e55ed504b6f82ed2c3b33f8676deadd0a2e2d6bb61"), looks := true }, kinds := [], alts := [], laidByText := true, laidKinds := [.data, .data, .data, .data, .sentinel, .sentinel, .pinned], laidTests := true, laidLooks := .later }
def NumsBadCardSaid : Prop := Claim7.holds Tryd.pinned (.plain (OpenSpec.ofChange numsBadSpec)) numsBadCard

/-- THE TIED CARD OF 'ambrylaw19.StatsSums'. -/
def statsSumsCard : Claim7 := { stood := { row := statsSumsRow, standIns := [], harness := (true, "9bf365950e0652d3886349e55ed504b6f82ed2c3b33f8676deadd0a2e2d6bb61"), looks := true }, kinds := [], alts := [], laidByText := true, laidKinds := [.data, .data, .data, .data, .sentinel, .sentinel, .pinned], laidTests := true, laidLooks := .later }
def StatsSumsCardSaid : Prop := Claim7.holds Tryd.pinned (.plain (OpenSpec.ofChange statsSumsSpec)) statsSumsCard

/-- THE SECOND FORM's CARD OF 'ambrylaw19.StatsPlays'. -/
def statsPlaysUptoCard : Claim7 := { stood := { row := statsPlaysUptoRow, standIns := [], harness := (true, "9bf365950e0652d3886349e55ed504b6f82ed2c3b33f8676deadd0a2e2d6bb61"), looks := true }, kinds := [], alts := [], laidByText := true, laidKinds := [.data, .data, .data], laidTests := true, laidLooks := .later }
def StatsPlaysUptoCardSaid : Prop := Claim7.holds Tryd.pinned (.plain (OpenSpec.upto statsPlaysSpec)) statsPlaysUptoCard

/-- THE SECOND FORM's CARD OF 'ambrylaw19.StatsResets'. -/
def statsResetsUptoCard : Claim7 := { stood := { row := statsResetsUptoRow, standIns := [], harness := (true, "9bf365950e0652d3886349e55ed504b6f82ed2c3b33f8676deadd0a2e2d6bb61"), looks := true }, kinds := [], alts := [], laidByText := true, laidKinds := [.data, .data, .data], laidTests := true, laidLooks := .later }
def StatsResetsUptoCardSaid : Prop := Claim7.holds Tryd.pinned (.plain (OpenSpec.upto statsResetsSpec)) statsResetsUptoCard

/-- THE SECOND FORM's CARD OF 'ambrylaw01.NumsParses'. -/
def numsParsesUptoCard : Claim7 := { stood := { row := numsParsesUptoRow, standIns := [], harness := (true, "9bf365950e0652d3886349e55ed504b6f82ed2c3b33f8676deadd0a2e2d6bb61"), looks := true }, kinds := [], alts := [], laidByText := true, laidKinds := [.data, .data, .data, .data, .sentinel, .sentinel, .pinned], laidTests := true, laidLooks := .later }
def NumsParsesUptoCardSaid : Prop := Claim7.holds Tryd.pinned (.plain (OpenSpec.upto numsParsesSpec)) numsParsesUptoCard

/-- THE SECOND FORM's CARD OF 'ambrylaw01.NumsTexts'. -/
def numsTextsUptoCard : Claim7 := { stood := { row := numsTextsUptoRow, standIns := [], harness := (true, "9bf365950e0652d3886349e55ed504b6f82ed2c3b33f8676deadd0a2e2d6bb61"), looks := true }, kinds := [], alts := [], laidByText := true, laidKinds := [.data, .data, .data, .data, .sentinel, .sentinel, .pinned], laidTests := true, laidLooks := .later }
def NumsTextsUptoCardSaid : Prop := Claim7.holds Tryd.pinned (.plain (OpenSpec.upto numsTextsSpec)) numsTextsUptoCard

/-- THE SECOND FORM's CARD OF 'ambrylaw01.NumsOrder'. -/
def numsOrderUptoCard : Claim7 := { stood := { row := numsOrderUptoRow, standIns := [], harness := (true, "9bf365950e0652d3886349e55ed504b6f82ed2c3b33f8676deadd0a2e2d6bb61"), looks := true }, kinds := [], alts := [], laidByText := true, laidKinds := [.data, .data, .data, .data, .sentinel, .sentinel, .pinned], laidTests := true, laidLooks := .later }
def NumsOrderUptoCardSaid : Prop := Claim7.holds Tryd.pinned (.plain (OpenSpec.upto numsOrderSpec)) numsOrderUptoCard

/-- THE SECOND FORM's CARD OF 'ambrylaw01.NumsSums'. -/
def numsSumsUptoCard : Claim7 := { stood := { row := numsSumsUptoRow, standIns := [], harness := (true, "9bf365950e0652d3886349e55ed504b6f82ed2c3b33f8676deadd0a2e2d6bb61"), looks := true }, kinds := [], alts := [], laidByText := true, laidKinds := [.data, .data, .data, .data, .sentinel, .sentinel, .pinned], laidTests := true, laidLooks := .later }
def NumsSumsUptoCardSaid : Prop := Claim7.holds Tryd.pinned (.plain (OpenSpec.upto numsSumsSpec)) numsSumsUptoCard

/-- THE SECOND FORM's CARD OF 'ambrylaw01.NumsUndo'. -/
def numsUndoUptoCard : Claim7 := { stood := { row := numsUndoUptoRow, standIns := [], harness := (true, "9bf365950e0652d3886349e55ed504b6f82ed2c3b33f8676deadd0a2e2d6bb61"), looks := true }, kinds := [], alts := [], laidByText := true, laidKinds := [.data, .data, .data, .data, .sentinel, .sentinel, .pinned], laidTests := true, laidLooks := .later }
def NumsUndoUptoCardSaid : Prop := Claim7.holds Tryd.pinned (.plain (OpenSpec.upto numsUndoSpec)) numsUndoUptoCard

/-- THE SECOND FORM's CARD OF 'ambrylaw01.NumsSigned'. -/
def numsSignedUptoCard : Claim7 := { stood := { row := numsSignedUptoRow, standIns := [], harness := (true, "9bf365950e0652d3886349e55ed504b6f82ed2c3b33f8676deadd0a2e2d6bb61"), looks := true }, kinds := [], alts := [], laidByText := true, laidKinds := [.data, .data, .data, .data, .sentinel, .sentinel, .pinned], laidTests := true, laidLooks := .later }
def NumsSignedUptoCardSaid : Prop := Claim7.holds Tryd.pinned (.plain (OpenSpec.upto numsSignedSpec)) numsSignedUptoCard

/-- THE SECOND FORM's CARD OF 'ambrylaw01.NumsBack'. -/
def numsBackUptoCard : Claim7 := { stood := { row := numsBackUptoRow, standIns := [], harness := (true, "9bf365950e0652d3886349e55ed504b6f82ed2c3b33f8676deadd0a2e2d6bb61"), looks := true }, kinds := [], alts := [], laidByText := true, laidKinds := [.data, .data, .data, .data, .sentinel, .sentinel, .pinned], laidTests := true, laidLooks := .later }
def NumsBackUptoCardSaid : Prop := Claim7.holds Tryd.pinned (.plain (OpenSpec.upto numsBackSpec)) numsBackUptoCard

/-- THE SECOND FORM's CARD OF 'ambrylaw01.NumsBad'. -/
def numsBadUptoCard : Claim7 := { stood := { row := numsBadUptoRow, standIns := [], harness := (true, "9bf365950e0652d3886349e55ed504b6f82ed2c3b33f8676deadd0a2e2d6bb61"), looks := true }, kinds := [], alts := [], laidByText := true, laidKinds := [.data, .data, .data, .data, .sentinel, .sentinel, .pinned], laidTests := true, laidLooks := .later }
def NumsBadUptoCardSaid : Prop := Claim7.holds Tryd.pinned (.plain (OpenSpec.upto numsBadSpec)) numsBadUptoCard

/-- THE SECOND FORM's CARD OF 'ambrylaw19.StatsSums'. -/
def statsSumsUptoCard : Claim7 := { stood := { row := statsSumsUptoRow, standIns := [], harness := (true, "9bf365950e0652d3886349e55ed504b6f82ed2c3b33f8676deadd0a2e2d6bb61"), looks := true }, kinds := [], alts := [], laidByText := true, laidKinds := [.data, .data, .data, .data, .sentinel, .sentinel, .pinned], laidTests := true, laidLooks := .later }
def StatsSumsUptoCardSaid : Prop := Claim7.holds Tryd.pinned (.plain (OpenSpec.upto statsSumsSpec)) statsSumsUptoCard
end Rows
end Go.Proofs.YtjfkfnlnjklcdaaDoor
