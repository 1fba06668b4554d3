/- The contracts of library functions that this claim uses, laid at this translation by the guide's shelf tools: each is one application of a theorem of the library. -/
import Derived.Shelf.Strconv.Itoa1
import Derived.Shelf.LaysM
import Derived.Shelf.Strconv.Itoa2
import Derived.Shelf.LaysC
import Derived.Test.YtehfcboiimdkbaaGreatDoorProg
namespace Go.Proofs
set_option linter.unusedSimpArgs false
set_option linter.unusedVariables false
open Go.Shelf
end Go.Proofs
