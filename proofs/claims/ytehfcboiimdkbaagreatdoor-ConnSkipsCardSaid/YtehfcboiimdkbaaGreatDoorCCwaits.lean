/- ConnWaits, walked. Printed by gen_cwaits.py. -/
import Derived.Test.YtehfcboiimdkbaaGreatDoorCClaw
import Derived.Test.YtehfcboiimdkbaaGreatDoorCSxMake
namespace Go.Proofs.YtehfcboiimdkbaaGreatDoor
set_option linter.unusedSimpArgs false
set_option linter.unusedVariables false
set_option linter.unusedSimpArgs false
set_option linter.unusedVariables false
set_option maxHeartbeats 8000000
open Go.RowKit
set_option maxRecDepth 100000
theorem infoB : (Tryz.prog.info? 5).map (fun i => (i.zero, i.size, i.bytes)) = some (some (.int .u8 0), 1, 1) := by kernel_rfl
def zs (n : Nat) : List UInt8 := List.replicate n 0
theorem zs_len (n : Nat) : (zs n).length = n := List.length_replicate
def mn : List UInt8 := [109, 110, 10]
theorem mn_next : cParse mn = (gB, 3) := by kernel_rfl
theorem next_mn {o : List UInt8} (h : o.length < 100000) : cnNext ⟨mn, o, 0, false⟩ = (⟨[], o, 0, false⟩, gB, true) := by
  unfold cnNext
  rw [if_neg (by simp; omega)]
  simp only [mn_next]
  have h1 : gB.kind ≠ 0 := by rw [sn9.2]; decide
  have h2 : gB.close = false := by decide +kernel
  have h3 : gB.skip = 0 := by decide +kernel
  rw [if_neg h1, h2]
  simp [cnPass, h3, mn]
end Go.Proofs.YtehfcboiimdkbaaGreatDoor
