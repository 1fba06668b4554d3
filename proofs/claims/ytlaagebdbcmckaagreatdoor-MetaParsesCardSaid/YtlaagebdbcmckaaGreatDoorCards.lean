/-
  DERIVED. GIVEN WITH THE SEED: THE CARDS: each row of YtlaagebdbcmckaaGreatDoorRows.lean that lists a variable, with what it lists TIED to the program's text (the seventh form; the later family's looks); each row that meets fmt, with fmt's text TOLD by the authors' own Lean function (tested against real Go, not proved from fmt's source: count such statements apart). THE CARD IS WHAT COUNTS. Prove the row's statement (the work); the ties are given (YtlaagebdbcmckaaGreatDoorTie.lean); close each card by the builder's one call (the guide's Derived/Test/ToyasCard.lean, 'card_holds'). Laid BY PROGRAM, IN A SANDBOX (cutbox-door.mjs). By AI agents, Wed Nov 11 2026. No macro, syntax, notation, axiom, sorry.
-/
import Derived.Test.YtlaagebdbcmckaaGreatDoorRows
import GoSem.ClaimSeven
namespace Go.Proofs.YtlaagebdbcmckaaGreatDoor
namespace Rows

/-- THE TIED CARD OF 'ambrylaw21.MetaParses'. -/
def metaParsesCard : Claim7 := { stood := { row := metaParsesRow, standIns := [], harness := (true, "7aa3bd32085a1e61dd254207036ed600df8c6ab7c25c5fe5290b4425806307d3"), looks := true }, kinds := [], alts := [], laidByText := true, laidKinds := [.data, .data, .data, .data, .sentinel, .sentinel, .pinned], laidTests := true, laidLooks := .later }
def MetaParsesCardSaid : Prop := Claim7.holds Tryz.pinned (.plain (OpenSpec.ofChange metaParsesSpec)) metaParsesCard

/-- THE TIED CARD OF 'ambrylaw21.MetaReplies'. -/
def metaRepliesCard : Claim7 := { stood := { row := metaRepliesRow, standIns := [], harness := (true, "7aa3bd32085a1e61dd254207036ed600df8c6ab7c25c5fe5290b4425806307d3"), looks := true }, kinds := [], alts := [], laidByText := true, laidKinds := [.data, .data, .data, .data, .sentinel, .sentinel, .pinned], laidTests := true, laidLooks := .later }
def MetaRepliesCardSaid : Prop := Claim7.holds Tryz.pinned (.plain (OpenSpec.ofChange metaRepliesSpec)) metaRepliesCard

/-- THE TIED CARD OF 'ambrylaw21.MetaPieces'. -/
def metaPiecesCard : Claim7 := { stood := { row := metaPiecesRow, standIns := [], harness := (true, "7aa3bd32085a1e61dd254207036ed600df8c6ab7c25c5fe5290b4425806307d3"), looks := true }, kinds := [], alts := [], laidByText := true, laidKinds := [.data, .data, .data, .data, .sentinel, .sentinel, .pinned], laidTests := true, laidLooks := .later }
def MetaPiecesCardSaid : Prop := Claim7.holds Tryz.pinned (.plain (OpenSpec.ofChange metaPiecesSpec)) metaPiecesCard

/-- THE TIED CARD OF 'ambrylaw21.MetaNumbers'. -/
def metaNumbersCard : Claim7 := { stood := { row := metaNumbersRow, standIns := [], harness := (true, "7aa3bd32085a1e61dd254207036ed600df8c6ab7c25c5fe5290b4425806307d3"), looks := true }, kinds := [], alts := [], laidByText := true, laidKinds := [.data, .data, .data, .data, .sentinel, .sentinel, .pinned], laidTests := true, laidLooks := .later }
def MetaNumbersCardSaid : Prop := Claim7.holds Tryz.pinned (.plain (OpenSpec.ofChange metaNumbersSpec)) metaNumbersCard

/-- THE TIED CARD OF 'ambrylaw21.MetaQuiet'. -/
def metaQuietCard : Claim7 := { stood := { row := metaQuietRow, standIns := [], harness := (true, "7aa3bd32085a1e61dd254207036ed600df8c6ab7c25c5fe5290b4425806307d3"), looks := true }, kinds := [], alts := [], laidByText := true, laidKinds := [.data, .data, .data, .data, .sentinel, .sentinel, .pinned], laidTests := true, laidLooks := .later }
def MetaQuietCardSaid : Prop := Claim7.holds Tryz.pinned (.plain (OpenSpec.ofChange metaQuietSpec)) metaQuietCard

/-- THE TIED CARD OF 'ambrylaw21.MetaOrder'. -/
def metaOrderCard : Claim7 := { stood := { row := metaOrderRow, standIns := [], harness := (true, "7aa3bd32085a1e61dd254207036ed600df8c6ab7c25c5fe5290b4425806307d3"), looks := true }, kinds := [], alts := [], laidByText := true, laidKinds := [.data, .data, .data, .data, .sentinel, .sentinel, .pinned], laidTests := true, laidLooks := .later }
def MetaOrderCardSaid : Prop := Claim7.holds Tryz.pinned (.plain (OpenSpec.ofChange metaOrderSpec)) metaOrderCard

/-- THE TIED CARD OF 'ambrylaw21.MetaKeys'. -/
def metaKeysCard : Claim7 := { stood := { row := metaKeysRow, standIns := [], harness := (true, "7aa3bd32085a1e61dd254207036ed600df8c6ab7c25c5fe5290b4425806307d3"), looks := true }, kinds := [], alts := [], laidByText := true, laidKinds := [.data, .data, .data, .data, .sentinel, .sentinel, .pinned], laidTests := true, laidLooks := .later }
def MetaKeysCardSaid : Prop := Claim7.holds Tryz.pinned (.plain (OpenSpec.ofChange metaKeysSpec)) metaKeysCard

/-- THE SECOND FORM's CARD OF 'ambrylaw21.MetaParses'. -/
def metaParsesUptoCard : Claim7 := { stood := { row := metaParsesUptoRow, standIns := [], harness := (true, "7aa3bd32085a1e61dd254207036ed600df8c6ab7c25c5fe5290b4425806307d3"), looks := true }, kinds := [], alts := [], laidByText := true, laidKinds := [.data, .data, .data, .data, .sentinel, .sentinel, .pinned], laidTests := true, laidLooks := .later }
def MetaParsesUptoCardSaid : Prop := Claim7.holds Tryz.pinned (.plain (OpenSpec.upto metaParsesSpec)) metaParsesUptoCard

/-- THE SECOND FORM's CARD OF 'ambrylaw21.MetaReplies'. -/
def metaRepliesUptoCard : Claim7 := { stood := { row := metaRepliesUptoRow, standIns := [], harness := (true, "7aa3bd32085a1e61dd254207036ed600df8c6ab7c25c5fe5290b4425806307d3"), looks := true }, kinds := [], alts := [], laidByText := true, laidKinds := [.data, .data, .data, .data, .sentinel, .sentinel, .pinned], laidTests := true, laidLooks := .later }
def MetaRepliesUptoCardSaid : Prop := Claim7.holds Tryz.pinned (.plain (OpenSpec.upto metaRepliesSpec)) metaRepliesUptoCard

/-- THE SECOND FORM's CARD OF 'ambrylaw21.MetaPieces'. -/
def metaPiecesUptoCard : Claim7 := { stood := { row := metaPiecesUptoRow, standIns := [], harness := (true, "7aa3bd32085a1e61dd254207036ed600df8c6ab7c25c5fe5290b4425806307d3"), looks := true }, kinds := [], alts := [], laidByText := true, laidKinds := [.data, .data, .data, .data, .sentinel, .sentinel, .pinned], laidTests := true, laidLooks := .later }
def MetaPiecesUptoCardSaid : Prop := Claim7.holds Tryz.pinned (.plain (OpenSpec.upto metaPiecesSpec)) metaPiecesUptoCard

/-- THE SECOND FORM's CARD OF 'ambrylaw21.MetaNumbers'. -/
def metaNumbersUptoCard : Claim7 := { stood := { row := metaNumbersUptoRow, standIns := [], harness := (true, "7aa3bd32085a1e61dd254207036ed600df8c6ab7c25c5fe5290b4425806307d3"), looks := true }, kinds := [], alts := [], laidByText := true, laidKinds := [.data, .data, .data, .data, .sentinel, .sentinel, .pinned], laidTests := true, laidLooks := .later }
def MetaNumbersUptoCardSaid : Prop := Claim7.holds Tryz.pinned (.plain (OpenSpec.upto metaNumbersSpec)) metaNumbersUptoCard

/-- THE SECOND FORM's CARD OF 'ambrylaw21.MetaQuiet'. -/
def metaQuietUptoCard : Claim7 := { stood := { row := metaQuietUptoRow, standIns := [], harness := (true, "7aa3bd32085a1e61dd254207036ed600df8c6ab7c25c5fe5290b4425806307d3"), looks := true }, kinds := [], alts := [], laidByText := true, laidKinds := [.data, .data, .data, .data, .sentinel, .sentinel, .pinned], laidTests := true, laidLooks := .later }
def MetaQuietUptoCardSaid : Prop := Claim7.holds Tryz.pinned (.plain (OpenSpec.upto metaQuietSpec)) metaQuietUptoCard

/-- THE SECOND FORM's CARD OF 'ambrylaw21.MetaOrder'. -/
def metaOrderUptoCard : Claim7 := { stood := { row := metaOrderUptoRow, standIns := [], harness := (true, "7aa3bd32085a1e61dd254207036ed600df8c6ab7c25c5fe5290b4425806307d3"), looks := true }, kinds := [], alts := [], laidByText := true, laidKinds := [.data, .data, .data, .data, .sentinel, .sentinel, .pinned], laidTests := true, laidLooks := .later }
def MetaOrderUptoCardSaid : Prop := Claim7.holds Tryz.pinned (.plain (OpenSpec.upto metaOrderSpec)) metaOrderUptoCard

/-- THE SECOND FORM's CARD OF 'ambrylaw21.MetaKeys'. -/
def metaKeysUptoCard : Claim7 := { stood := { row := metaKeysUptoRow, standIns := [], harness := (true, "7aa3bd32085a1e61dd254207036ed600df8c6ab7c25c5fe5290b4425806307d3"), looks := true }, kinds := [], alts := [], laidByText := true, laidKinds := [.data, .data, .data, .data, .sentinel, .sentinel, .pinned], laidTests := true, laidLooks := .later }
def MetaKeysUptoCardSaid : Prop := Claim7.holds Tryz.pinned (.plain (OpenSpec.upto metaKeysSpec)) metaKeysUptoCard
end Rows
end Go.Proofs.YtlaagebdbcmckaaGreatDoor
