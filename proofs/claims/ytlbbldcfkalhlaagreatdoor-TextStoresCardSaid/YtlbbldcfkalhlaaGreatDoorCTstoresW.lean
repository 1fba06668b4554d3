/- TextStores, walked. -/
import Derived.Test.YtlbbldcfkalhlaaGreatDoorCTnumW
import Derived.Test.YtlbbldcfkalhlaaGreatDoorCTjoinR
import Derived.Test.YtlbbldcfkalhlaaGreatDoorBC
namespace Go.Proofs.YtlbbldcfkalhlaaGreatDoor
set_option linter.unusedSimpArgs false
set_option linter.unusedVariables false
open Go.RowKit
set_option maxRecDepth 100000

def swC : Ctr := fun f en xs => match f with
  | 14 => rowJoinR en xs
  | _ => lwC f en xs
theorem swC_ok {C : Cx} (hP : C.P = Tryz.prog) (hE : ∀ w, Upd C.S C.w0 w → EnvT w) : CtrOk C swC := by
  intro f en xs p v h hp ρ w hup hHp hHo hinj hwf
  unfold swC at h
  split at h
  · rw [hP]; exact ⟨fun args w => Tryz.call14 args w, rowJoinR_ok h hp hHp hHo⟩
  · exact lwC_ok hP hE f en xs p v h hp ρ w hup hHp hHo hinj hwf
theorem stN_ix {i : Nat} (h : i < 6) : zD [SC.s [115, 101, 116], .s [97, 100, 100], .s [114, 101, 112, 108, 97, 99, 101], .s [97, 112, 112, 101, 110, 100], .s [112, 114, 101, 112, 101, 110, 100], .s [99, 97, 115]] i = some (SC.s (stN i)) := by
  match i, h with
  | 0, _ => rfl
  | 1, _ => rfl
  | 2, _ => rfl
  | 3, _ => rfl
  | 4, _ => rfl
  | 5, _ => rfl
end Go.Proofs.YtlbbldcfkalhlaaGreatDoor
