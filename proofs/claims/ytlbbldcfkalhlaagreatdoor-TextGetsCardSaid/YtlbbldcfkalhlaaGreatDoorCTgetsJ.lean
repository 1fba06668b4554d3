/- TextGets, joined. -/
import Derived.Test.YtlbbldcfkalhlaaGreatDoorCTgetsA
import Derived.Test.YtlbbldcfkalhlaaGreatDoorCTgetsB
namespace Go.Proofs.YtlbbldcfkalhlaaGreatDoor
set_option linter.unusedSimpArgs false
set_option linter.unusedVariables false
open Go.RowKit
set_option maxRecDepth 100000

theorem gets_walk {w : World} {a a2 : Option Addr} {n c n2 c2 : Nat} {xs : List It} {B : Nat → Bool} (tok : Bool) (hraw : RawIt w a n xs) (hit : ∀ x ∈ xs, ItB x ∧ x.key.length ≤ 9223372036854775807) (hc : n ≤ c) (h63 : n ≤ 9223372036854775807) (hB : RawB w a2 n2 B) (h2 : n2 ≤ 9223372036854775807) (hE0 : EnvT w) :
    Calls Tryz.prog 8 #[.slice a n c, .bool tok, .slice a2 n2 c2] w fun e w' => e = .returned (.bool true) ∧ Below w.heap.size w w' := by
  cases tok
  · exact gets_f hraw hit hc h63 hB h2 hE0
  · exact gets_t hraw hit hc h63 hB h2 hE0
end Go.Proofs.YtlbbldcfkalhlaaGreatDoor
