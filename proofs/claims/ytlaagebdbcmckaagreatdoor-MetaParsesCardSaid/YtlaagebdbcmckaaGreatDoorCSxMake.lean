/- make of a row of elements of one cell; a text of a row of bytes. No program in sight. -/
import Derived.Test.YtlaagebdbcmckaaGreatDoorBB
import Derived.Laws.MakeOwn
import Derived.Laws.BytesString
namespace Go.Proofs.YtlaagebdbcmckaaGreatDoor
set_option linter.unusedSimpArgs false
set_option linter.unusedVariables false
open Go.RowKit
section
variable {C : Cx} {nt : Nat} {sl : List (Nat × SV)} {en : List EN} {k : List KI}
variable {dst : Option Nat} {op : Op} {ty : TypeId} {pos : String} {af : Array Edge} {all r : List Oper} {gd : Option (Nat × Bool)}
end
end Go.Proofs.YtlaagebdbcmckaaGreatDoor
