/-
  DERIVED. GIVEN WITH THE SEED: THE CARDS: each row of YtfpeholdlkfmoaaGreatDoorRows.lean that lists a variable, with what it lists TIED to the program's text (the seventh form; the later family's looks); each row that meets fmt, with fmt's text TOLD by the authors' own Lean function (tested against real Go, not proved from fmt's source: count such statements apart). THE CARD IS WHAT COUNTS. Prove the row's statement (the work); the ties are given (YtfpeholdlkfmoaaGreatDoorTie.lean); close each card by the builder's one call (the guide's Derived/Test/ToyasCard.lean, 'card_holds'). Laid BY PROGRAM, IN A SANDBOX (cutbox-door.mjs). By AI agents, Wed Nov 11 2026. No macro, syntax, notation, axiom, sorry.
-/
import Derived.Test.YtfpeholdlkfmoaaGreatDoorRows
import GoSem.ClaimSeven
namespace Go.Proofs.YtfpeholdlkfmoaaGreatDoor
namespace Rows

/-- THE TIED CARD OF 'ambrylaw16.ModelApplies'. -/
def modelAppliesCard : Claim7 := { stood := { row := modelAppliesRow, standIns := [], harness := (true, "8ab2caf2b1586842ede52255b217293f81cb7b6bd4dbaf44692e377ed11bc4be"), looks := true }, kinds := [], alts := [], laidByText := true, laidKinds := [.data, .data, .data, .data, .sentinel, .sentinel, .pinned], laidTests := true, laidLooks := .later }
def ModelAppliesCardSaid : Prop := Claim7.holds Tryz.pinned (.plain (OpenSpec.ofChange modelAppliesSpec)) modelAppliesCard

/-- THE TIED CARD OF 'ambrylaw24.AuditOne'. -/
def auditOneCard : Claim7 := { stood := { row := auditOneRow, standIns := [], harness := (true, "8ab2caf2b1586842ede52255b217293f81cb7b6bd4dbaf44692e377ed11bc4be"), looks := true }, kinds := [], alts := [], laidByText := true, laidKinds := [.data, .data, .data, .data, .sentinel, .sentinel, .pinned], laidTests := true, laidLooks := .later }
def AuditOneCardSaid : Prop := Claim7.holds Tryz.pinned (.plain (OpenSpec.ofChange auditOneSpec)) auditOneCard

/-- THE TIED CARD OF 'ambrylaw24.AuditSpoils'. -/
def auditSpoilsCard : Claim7 := { stood := { row := auditSpoilsRow, standIns := [], harness := (true, "8ab2caf2b1586842ede52255b217293f81cb7b6bd4dbaf44692e377ed11bc4be"), looks := true }, kinds := [], alts := [], laidByText := true, laidKinds := [.data, .data, .data, .data, .sentinel, .sentinel, .pinned], laidTests := true, laidLooks := .later }
def AuditSpoilsCardSaid : Prop := Claim7.holds Tryz.pinned (.plain (OpenSpec.ofChange auditSpoilsSpec)) auditSpoilsCard

/-- THE TIED CARD OF 'ambrylaw24.AuditLost'. -/
def auditLostCard : Claim7 := { stood := { row := auditLostRow, standIns := [], harness := (true, "8ab2caf2b1586842ede52255b217293f81cb7b6bd4dbaf44692e377ed11bc4be"), looks := true }, kinds := [], alts := [], laidByText := true, laidKinds := [.data, .data, .data, .data, .sentinel, .sentinel, .pinned], laidTests := true, laidLooks := .later }
def AuditLostCardSaid : Prop := Claim7.holds Tryz.pinned (.plain (OpenSpec.ofChange auditLostSpec)) auditLostCard

/-- THE SECOND FORM's CARD OF 'ambrylaw16.ModelApplies'. -/
def modelAppliesUptoCard : Claim7 := { stood := { row := modelAppliesUptoRow, standIns := [], harness := (true, "8ab2caf2b1586842ede52255b217293f81cb7b6bd4dbaf44692e377ed11bc4be"), looks := true }, kinds := [], alts := [], laidByText := true, laidKinds := [.data, .data, .data, .data, .sentinel, .sentinel, .pinned], laidTests := true, laidLooks := .later }
def ModelAppliesUptoCardSaid : Prop := Claim7.holds Tryz.pinned (.plain (OpenSpec.upto modelAppliesSpec)) modelAppliesUptoCard

/-- THE SECOND FORM's CARD OF 'ambrylaw24.AuditOne'. -/
def auditOneUptoCard : Claim7 := { stood := { row := auditOneUptoRow, standIns := [], harness := (true, "8ab2caf2b1586842ede52255b217293f81cb7b6bd4dbaf44692e377ed11bc4be"), looks := true }, kinds := [], alts := [], laidByText := true, laidKinds := [.data, .data, .data, .data, .sentinel, .sentinel, .pinned], laidTests := true, laidLooks := .later }
def AuditOneUptoCardSaid : Prop := Claim7.holds Tryz.pinned (.plain (OpenSpec.upto auditOneSpec)) auditOneUptoCard

/-- THE SECOND FORM's CARD OF 'ambrylaw24.AuditSpoils'. -/
def auditSpoilsUptoCard : Claim7 := { stood := { row := auditSpoilsUptoRow, standIns := [], harness := (true, "8ab2caf2b1586842ede52255b217293f81cb7b6bd4dbaf44692e377ed11bc4be"), looks := true }, kinds := [], alts := [], laidByText := true, laidKinds := [.data, .data, .data, .data, .sentinel, .sentinel, .pinned], laidTests := true, laidLooks := .later }
def AuditSpoilsUptoCardSaid : Prop := Claim7.holds Tryz.pinned (.plain (OpenSpec.upto auditSpoilsSpec)) auditSpoilsUptoCard

/-- THE SECOND FORM's CARD OF 'ambrylaw24.AuditLost'. -/
def auditLostUptoCard : Claim7 := { stood := { row := auditLostUptoRow, standIns := [], harness := (true, "8ab2caf2b1586842ede52255b217293f81cb7b6bd4dbaf44692e377ed11bc4be"), looks := true }, kinds := [], alts := [], laidByText := true, laidKinds := [.data, .data, .data, .data, .sentinel, .sentinel, .pinned], laidTests := true, laidLooks := .later }
def AuditLostUptoCardSaid : Prop := Claim7.holds Tryz.pinned (.plain (OpenSpec.upto auditLostSpec)) auditLostUptoCard
end Rows
end Go.Proofs.YtfpeholdlkfmoaaGreatDoor
