/- What is no request has no length. No program in sight. -/
import Derived.Test.YtlbbldcfkalhlaaGreatDoorBC
namespace Go.Proofs.YtlbbldcfkalhlaaGreatDoor
set_option linter.unusedSimpArgs false
set_option linter.unusedVariables false
open Go.Lib

theorem get_kind {name : List UInt8} {w : List (List UInt8)} {q : Rq} {u : Int} (h : getR name w = .got q false u) : q.kind ≠ 0 := by
  unfold getR at h
  simp only at h
  repeat' split at h
  all_goals first
    | cases h; done
    | (simp only [Rd'.got.injEq, true_and] at h; rw [← h.1]; intro e; cases e; done)
theorem plain_kind {name : List UInt8} {w : List (List UInt8)} {q : Rq} {u : Int} (h : plainR name w = .got q false u) : q.kind ≠ 0 := by
  unfold plainR okKey at h
  simp only at h
  repeat' split at h
  all_goals first
    | cases h; done
    | (simp only [Rd'.got.injEq, true_and] at h; rw [← h.1]; intro e; cases e; done)
theorem store_kind {name : List UInt8} {w : List (List UInt8)} {a : List UInt8} {q : Rq} {u : Int} (h : storeR name w a = .got q false u) : q.kind ≠ 0 := by
  unfold storeR at h
  simp only at h
  repeat' split at h
  all_goals first
    | cases h; done
    | (simp only [Rd'.got.injEq, true_and] at h; rw [← h.1]; intro e; cases e; done)
    | (simp only [Rd'.got.injEq] at h; exact absurd h.2.1 (by simp))
theorem read_kind {name : List UInt8} {w : List (List UInt8)} {a : List UInt8} {q : Rq} {u : Int} (h : readR name w a = .got q false u) : q.kind ≠ 0 := by
  unfold readR at h
  split at h
  · exact get_kind h
  · split at h
    · exact store_kind h
    · exact plain_kind h
theorem bad_kind (f : List UInt8) : (badR f).kind ≠ 0 := by intro e; cases e
theorem endR_none {n : Nat} {x : Rd'} (hx : ∀ q u, x = .got q false u → q.kind ≠ 0) (h : (endR n x).1.kind = 0) : (endR n x).2 = 0 := by
  cases x with
  | fault f => exact absurd h (bad_kind f)
  | got r more used =>
    cases more with
    | true => rfl
    | false => exact absurd h (hx r used rfl)
theorem parse_none {a : List UInt8} (h : (tParse a).1.kind = 0) : (tParse a).2 = 0 := by
  unfold tParse at h ⊢
  simp only at h ⊢
  split at h
  · rename_i hs
    rw [if_pos hs]
    split at h
    · rename_i hl; rw [if_pos hl]
    · exact absurd h (by intro e; cases e)
  · rename_i hs
    rw [if_neg hs]
    unfold lineR at h ⊢
    split at h
    · exact absurd h (bad_kind _)
    · exact endR_none (fun q u e => read_kind e) h
end Go.Proofs.YtlbbldcfkalhlaaGreatDoor
