/- store, whatever its name. -/
import Derived.Test.YtehfcboiimdkbaaGreatDoorCVstA
import Derived.Test.YtehfcboiimdkbaaGreatDoorCVstB
namespace Go.Proofs.YtehfcboiimdkbaaGreatDoor
set_option linter.unusedSimpArgs false
set_option linter.unusedVariables false
open Go.RowKit
theorem store_w {name : List UInt8} (hname : name = [115, 101, 116] ∨ name = [97, 100, 100] ∨ name = [114, 101, 112, 108, 97, 99, 101] ∨ name = [97, 112, 112, 101, 110, 100] ∨ name = [112, 114, 101, 112, 101, 110, 100] ∨ name = [99, 97, 115]) {w : World} {g : Nat} {a : Option Addr} {c : Nat} {ws : List (List UInt8)} {behind : List UInt8} (h : Ln w g name a ws.length c ws behind 0 false) (hn : ws.length ≤ 100000) (hl : ∀ x ∈ ws, x.length ≤ 100000) (hb : behind.length ≤ 9223372036854775807) (hE0 : EnvG g w) :
    Calls Tryz.prog 55 #[.pointer (some ⟨g, 0, none⟩)] w (MP F2 g w (storeR name ws behind)) := by
  cases ht : (name == [99, 97, 115]) with
  | false => exact store_set hname ht h hn hl hb hE0
  | true => exact store_cas hname ht h hn hl hb hE0
end Go.Proofs.YtehfcboiimdkbaaGreatDoor
