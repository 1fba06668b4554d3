/- What the laws on connections share. Printed by gen_cends.py. -/
import Derived.Test.YtehfcboiimdkbaaGreatDoorCCcy
namespace Go.Proofs.YtehfcboiimdkbaaGreatDoor
set_option linter.unusedSimpArgs false
set_option linter.unusedVariables false
open Go.RowKit
set_option maxRecDepth 100000
def clC : Ctr := fun f _ xs => match f with
  | 9 => (match xs with
    | [] => some (True, .c (.b true))
    | _ => none)
  | _ => none
theorem clC_ok {C : Cx} (hP : C.P = Tryz.prog) (hE : ∀ w, Upd C.S C.w0 w → EnvT w) : CtrOk C clC := by
  intro f en xs p v h hp ρ w hup hHp hHo hinj hwf
  unfold clC at h
  split at h
  · rw [hP]
    refine ⟨fun args w => Tryz.call9 args w, ?_⟩
    split at h <;> simp only [Option.some.injEq, Prod.mk.injEq, reduceCtorEq] at h
    obtain ⟨_, rfl⟩ := h
    exact ⟨trivial, shownC_w w (hE w hup)⟩
  · cases h
theorem ptr_und : ∃ e, Tryz.prog.underlying 23 = some (.pointer e) := ⟨_, Tryz.underlying23⟩
end Go.Proofs.YtehfcboiimdkbaaGreatDoor
