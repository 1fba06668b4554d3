/- TextNumbers, walked. -/
import Derived.Test.YtlbbldcfkalhlaaGreatDoorCTshown
import Derived.Test.YtlbbldcfkalhlaaGreatDoorBC
import Derived.Test.YtlbbldcfkalhlaaGreatDoorBM
namespace Go.Proofs.YtlbbldcfkalhlaaGreatDoor
set_option linter.unusedSimpArgs false
set_option linter.unusedVariables false
open Go.RowKit
set_option maxRecDepth 100000

/-- the laws' small calls -/
def lwC : Ctr := fun f _ xs => match f with
  | 9 => (match xs with
    | [] => some (True, .c (.b true))
    | _ => none)
  | 12 => rowKeyB xs
  | 13 => rowText xs
  | _ => none
theorem lwC_ok {C : Cx} (hP : C.P = Tryz.prog) (hE : ∀ w, Upd C.S C.w0 w → EnvT w) : CtrOk C lwC := by
  intro f en xs p v h hp ρ w hup hHp hHo hinj hwf
  unfold lwC at h
  split at h
  · rw [hP]
    refine ⟨fun args w => Tryz.call9 args w, ?_⟩
    split at h <;> simp only [Option.some.injEq, Prod.mk.injEq, reduceCtorEq] at h
    obtain ⟨_, rfl⟩ := h
    exact ⟨trivial, shown_w w (hE w hup)⟩
  · rw [hP]; exact ⟨fun args w => Tryz.call12 args w, rowKeyB_ok h hp⟩
  · rw [hP]; exact ⟨fun args w => Tryz.call13 args w, rowText_ok h hp (hE w hup).env⟩
  · cases h
theorem stEq_cm (a b : Cd) : StEq Tryz.prog 37 (rcS a) (rcS b) := stEq_of (by kernel_rfl) (by kernel_rfl) (by kernel_rfl) (by kernel_rfl)
theorem steq_cm (o m : Int) (k v : List UInt8) (f e : Int) (he : Bool) (c : Int) (hc : Bool) (d i : Int) (dn vv : Bool) (ve rc : Int) (iv : Bool) (o' m' : Int) (k' v' : List UInt8) (f' e' : Int) (he' : Bool) (c' : Int) (hc' : Bool) (d' i' : Int) (dn' vv' : Bool) (ve' rc' : Int) (iv' : Bool) :
    StEq Tryz.prog 37 [.i .i64 o, .i .i64 m, .s k, .s v, .i .u32 f, .i .i64 e, .b he, .i .u64 c, .b hc, .i .u64 d, .i .u64 i, .b dn, .b vv, .i .i64 ve, .i .i64 rc, .b iv] [.i .i64 o', .i .i64 m', .s k', .s v', .i .u32 f', .i .i64 e', .b he', .i .u64 c', .b hc', .i .u64 d', .i .u64 i', .b dn', .b vv', .i .i64 ve', .i .i64 rc', .b iv'] :=
  stEq_cm ⟨o, m, k, v, f, e, he, c, hc, d, i, dn, vv, ve, rc, iv⟩ ⟨o', m', k', v', f', e', he', c', hc', d', i', dn', vv', ve', rc', iv'⟩
end Go.Proofs.YtlbbldcfkalhlaaGreatDoor
