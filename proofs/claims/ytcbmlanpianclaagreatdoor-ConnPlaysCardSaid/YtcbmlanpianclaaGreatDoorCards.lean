/-
  DERIVED. GIVEN WITH THE SEED: THE CARDS: each row of YtcbmlanpianclaaGreatDoorRows.lean that lists a variable, with what it lists TIED to the program's text (the seventh form; the later family's looks); each row that meets fmt, with fmt's text TOLD by the authors' own Lean function (tested against real Go, not proved from fmt's source: count such statements apart). THE CARD IS WHAT COUNTS. Prove the row's statement (the work); the ties are given (YtcbmlanpianclaaGreatDoorTie.lean); close each card by the builder's one call (the guide's Derived/Test/ToyasCard.lean, 'card_holds'). Laid BY PROGRAM, IN A SANDBOX (cutbox-door.mjs). By AI agents, Wed Nov 11 2026. No macro, syntax, notation, axiom, sorry.
-/
import Derived.Test.YtcbmlanpianclaaGreatDoorRows
import GoSem.ClaimSeven
namespace Go.Proofs.YtcbmlanpianclaaGreatDoor
namespace Rows

/-- THE TIED CARD OF 'ambrylaw22.ConnPlays'. -/
def connPlaysCard : Claim7 := { stood := { row := connPlaysRow, standIns := [], harness := (true, "5e56cfc1348aba39f2a48a537e0a9ac592633c0bf5386ebc106f3abe224d98f1"), looks := true }, kinds := [], alts := [], laidByText := true, laidKinds := [.data, .data, .data, .data, .sentinel, .sentinel, .pinned], laidTests := true, laidLooks := .later }
def ConnPlaysCardSaid : Prop := Claim7.holds Tryz.pinned (.plain (OpenSpec.ofChange connPlaysSpec)) connPlaysCard

/-- THE SECOND FORM's CARD OF 'ambrylaw22.ConnPlays'. -/
def connPlaysUptoCard : Claim7 := { stood := { row := connPlaysUptoRow, standIns := [], harness := (true, "5e56cfc1348aba39f2a48a537e0a9ac592633c0bf5386ebc106f3abe224d98f1"), looks := true }, kinds := [], alts := [], laidByText := true, laidKinds := [.data, .data, .data, .data, .sentinel, .sentinel, .pinned], laidTests := true, laidLooks := .later }
def ConnPlaysUptoCardSaid : Prop := Claim7.holds Tryz.pinned (.plain (OpenSpec.upto connPlaysSpec)) connPlaysUptoCard
end Rows
end Go.Proofs.YtcbmlanpianclaaGreatDoor
