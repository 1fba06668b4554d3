/-
  DERIVED. GIVEN WITH THE SEED: THE CARDS: each row of YtfmpdbngpknmaaaDoorRows.lean that lists a variable, with what it lists TIED to the program's text (the seventh form; the later family's looks); each row that meets fmt, with fmt's text TOLD by the authors' own Lean function (tested against real Go, not proved from fmt's source: count such statements apart). THE CARD IS WHAT COUNTS. Prove the row's statement (the work); the ties are given (YtfmpdbngpknmaaaDoorTie.lean); close each card by the builder's one call (the guide's Derived/Test/ToyasCard.lean, 'card_holds'). Laid BY PROGRAM, IN A SANDBOX (cutbox-door.mjs). By AI agents, Wed Nov 11 2026. No macro, syntax, notation, axiom, sorry.
-/
import Derived.Test.YtfmpdbngpknmaaaDoorRows
import GoSem.ClaimSeven
namespace Go.Proofs.YtfmpdbngpknmaaaDoor
namespace Rows

/-- THE TIED CARD OF 'ambrylaw16.ModelSets'. -/
def modelSetsCard : Claim7 := { stood := { row := modelSetsRow, standIns := [], harness := (true, "0ee210dee25d98d20acf959953f1f8e64feacfe91cd79c8a7cad896850385e5b"), looks := true }, kinds := [], alts := [], laidByText := true, laidKinds := [.data, .data, .data, .data, .sentinel, .sentinel, .pinned], laidTests := true, laidLooks := .later }
def ModelSetsCardSaid : Prop := Claim7.holds Tryd.pinned (.plain (OpenSpec.ofChange modelSetsSpec)) modelSetsCard

/-- THE TIED CARD OF 'ambrylaw16.ModelCas'. -/
def modelCasCard : Claim7 := { stood := { row := modelCasRow, standIns := [], harness := (true, "0ee210dee25d98d20acf959953f1f8e64feacfe91cd79c8a7cad896850385e5b"), looks := true }, kinds := [], alts := [], laidByText := true, laidKinds := [.data, .data, .data, .data, .sentinel, .sentinel, .pinned], laidTests := true, laidLooks := .later }
def ModelCasCardSaid : Prop := Claim7.holds Tryd.pinned (.plain (OpenSpec.ofChange modelCasSpec)) modelCasCard

/-- THE TIED CARD OF 'ambrylaw16.ModelSums'. -/
def modelSumsCard : Claim7 := { stood := { row := modelSumsRow, standIns := [], harness := (true, "0ee210dee25d98d20acf959953f1f8e64feacfe91cd79c8a7cad896850385e5b"), looks := true }, kinds := [], alts := [], laidByText := true, laidKinds := [.data, .data, .data, .data, .sentinel, .sentinel, .pinned], laidTests := true, laidLooks := .later }
def ModelSumsCardSaid : Prop := Claim7.holds Tryd.pinned (.plain (OpenSpec.ofChange modelSumsSpec)) modelSumsCard

/-- THE TIED CARD OF 'ambrylaw16.ModelWins'. -/
def modelWinsCard : Claim7 := { stood := { row := modelWinsRow, standIns := [], harness := (true, "0ee210dee25d98d20acf959953f1f8e64feacfe91cd79c8a7cad896850385e5b"), looks := true }, kinds := [], alts := [], laidByText := true, laidKinds := [.data, .data, .data, .data, .sentinel, .sentinel, .pinned], laidTests := true, laidLooks := .later }
def ModelWinsCardSaid : Prop := Claim7.holds Tryd.pinned (.plain (OpenSpec.ofChange modelWinsSpec)) modelWinsCard

/-- THE TIED CARD OF 'ambrylaw16.ModelApart'. -/
def modelApartCard : Claim7 := { stood := { row := modelApartRow, standIns := [], harness := (true, "0ee210dee25d98d20acf959953f1f8e64feacfe91cd79c8a7cad896850385e5b"), looks := true }, kinds := [], alts := [], laidByText := true, laidKinds := [.data, .data, .data, .data, .sentinel, .sentinel, .pinned], laidTests := true, laidLooks := .later }
def ModelApartCardSaid : Prop := Claim7.holds Tryd.pinned (.plain (OpenSpec.ofChange modelApartSpec)) modelApartCard

/-- THE TIED CARD OF 'ambrylaw16.ModelFlushes'. -/
def modelFlushesCard : Claim7 := { stood := { row := modelFlushesRow, standIns := [], harness := (true, "0ee210dee25d98d20acf959953f1f8e64feacfe91cd79c8a7cad896850385e5b"), looks := true }, kinds := [], alts := [], laidByText := true, laidKinds := [.data, .data, .data, .data, .sentinel, .sentinel, .pinned], laidTests := true, laidLooks := .later }
def ModelFlushesCardSaid : Prop := Claim7.holds Tryd.pinned (.plain (OpenSpec.ofChange modelFlushesSpec)) modelFlushesCard

/-- THE TIED CARD OF 'ambrylaw16.ModelTouches'. -/
def modelTouchesCard : Claim7 := { stood := { row := modelTouchesRow, standIns := [], harness := (true, "0ee210dee25d98d20acf959953f1f8e64feacfe91cd79c8a7cad896850385e5b"), looks := true }, kinds := [], alts := [], laidByText := true, laidKinds := [.data, .data, .data, .data, .sentinel, .sentinel, .pinned], laidTests := true, laidLooks := .later }
def ModelTouchesCardSaid : Prop := Claim7.holds Tryd.pinned (.plain (OpenSpec.ofChange modelTouchesSpec)) modelTouchesCard

/-- THE TIED CARD OF 'ambrylaw16.ModelLooks'. -/
def modelLooksCard : Claim7 := { stood := { row := modelLooksRow, standIns := [], harness := (true, "0ee210dee25d98d20acf959953f1f8e64feacfe91cd79c8a7cad896850385e5b"), looks := true }, kinds := [], alts := [], laidByText := true, laidKinds := [.data, .data, .data, .data, .sentinel, .sentinel, .pinned], laidTests := true, laidLooks := .later }
def ModelLooksCardSaid : Prop := Claim7.holds Tryd.pinned (.plain (OpenSpec.ofChange modelLooksSpec)) modelLooksCard

/-- THE SECOND FORM's CARD OF 'ambrylaw16.ModelSets'. -/
def modelSetsUptoCard : Claim7 := { stood := { row := modelSetsUptoRow, standIns := [], harness := (true, "0ee210dee25d98d20acf959953f1f8e64feacfe91cd79c8a7cad896850385e5b"), looks := true }, kinds := [], alts := [], laidByText := true, laidKinds := [.data, .data, .data, .data, .sentinel, .sentinel, .pinned], laidTests := true, laidLooks := .later }
def ModelSetsUptoCardSaid : Prop := Claim7.holds Tryd.pinned (.plain (OpenSpec.upto modelSetsSpec)) modelSetsUptoCard

/-- THE SECOND FORM's CARD OF 'ambrylaw16.ModelCas'. -/
def modelCasUptoCard : Claim7 := { stood := { row := modelCasUptoRow, standIns := [], harness := (true, "0ee210dee25d98d20acf959953f1f8e64feacfe91cd79c8a7cad896850385e5b"), looks := true }, kinds := [], alts := [], laidByText := true, laidKinds := [.data, .data, .data, .data, .sentinel, .sentinel, .pinned], laidTests := true, laidLooks := .later }
def ModelCasUptoCardSaid : Prop := Claim7.holds Tryd.pinned (.plain (OpenSpec.upto modelCasSpec)) modelCasUptoCard

/-- THE SECOND FORM's CARD OF 'ambrylaw16.ModelSums'. -/
def modelSumsUptoCard : Claim7 := { stood := { row := modelSumsUptoRow, standIns := [], harness := (true, "0ee210dee25d98d20acf959953f1f8e64feacfe91cd79c8a7cad896850385e5b"), looks := true }, kinds := [], alts := [], laidByText := true, laidKinds := [.data, .data, .data, .data, .sentinel, .sentinel, .pinned], laidTests := true, laidLooks := .later }
def ModelSumsUptoCardSaid : Prop := Claim7.holds Tryd.pinned (.plain (OpenSpec.upto modelSumsSpec)) modelSumsUptoCard

/-- THE SECOND FORM's CARD OF 'ambrylaw16.ModelWins'. -/
def modelWinsUptoCard : Claim7 := { stood := { row := modelWinsUptoRow, standIns := [], harness := (true, "0ee210dee25d98d20acf959953f1f8e64feacfe91cd79c8a7cad896850385e5b"), looks := true }, kinds := [], alts := [], laidByText := true, laidKinds := [.data, .data, .data, .data, .sentinel, .sentinel, .pinned], laidTests := true, laidLooks := .later }
def ModelWinsUptoCardSaid : Prop := Claim7.holds Tryd.pinned (.plain (OpenSpec.upto modelWinsSpec)) modelWinsUptoCard

/-- THE SECOND FORM's CARD OF 'ambrylaw16.ModelApart'. -/
def modelApartUptoCard : Claim7 := { stood := { row := modelApartUptoRow, standIns := [], harness := (true, "0ee210dee25d98d20acf959953f1f8e64feacfe91cd79c8a7cad896850385e5b"), looks := true }, kinds := [], alts := [], laidByText := true, laidKinds := [.data, .data, .data, .data, .sentinel, .sentinel, .pinned], laidTests := true, laidLooks := .later }
def ModelApartUptoCardSaid : Prop := Claim7.holds Tryd.pinned (.plain (OpenSpec.upto modelApartSpec)) modelApartUptoCard

/-- THE SECOND FORM's CARD OF 'ambrylaw16.ModelFlushes'. -/
def modelFlushesUptoCard : Claim7 := { stood := { row := modelFlushesUptoRow, standIns := [], harness := (true, "0ee210dee25d98d20acf959953f1f8e64feacfe91cd79c8a7cad896850385e5b"), looks := true }, kinds := [], alts := [], laidByText := true, laidKinds := [.data, .data, .data, .data, .sentinel, .sentinel, .pinned], laidTests := true, laidLooks := .later }
def ModelFlushesUptoCardSaid : Prop := Claim7.holds Tryd.pinned (.plain (OpenSpec.upto modelFlushesSpec)) modelFlushesUptoCard

/-- THE SECOND FORM's CARD OF 'ambrylaw16.ModelTouches'. -/
def modelTouchesUptoCard : Claim7 := { stood := { row := modelTouchesUptoRow, standIns := [], harness := (true, "0ee210dee25d98d20acf959953f1f8e64feacfe91cd79c8a7cad896850385e5b"), looks := true }, kinds := [], alts := [], laidByText := true, laidKinds := [.data, .data, .data, .data, .sentinel, .sentinel, .pinned], laidTests := true, laidLooks := .later }
def ModelTouchesUptoCardSaid : Prop := Claim7.holds Tryd.pinned (.plain (OpenSpec.upto modelTouchesSpec)) modelTouchesUptoCard

/-- THE SECOND FORM's CARD OF 'ambrylaw16.ModelLooks'. -/
def modelLooksUptoCard : Claim7 := { stood := { row := modelLooksUptoRow, standIns := [], harness := (true, "0ee210dee25d98d20acf959953f1f8e64feacfe91cd79c8a7cad896850385e5b"), looks := true }, kinds := [], alts := [], laidByText := true, laidKinds := [.data, .data, .data, .data, .sentinel, .sentinel, .pinned], laidTests := true, laidLooks := .later }
def ModelLooksUptoCardSaid : Prop := Claim7.holds Tryd.pinned (.plain (OpenSpec.upto modelLooksSpec)) modelLooksUptoCard
end Rows
end Go.Proofs.YtfmpdbngpknmaaaDoor
