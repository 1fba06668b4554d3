/- ModelLooks: looking changes nothing; what is looked at is what a get tells. No program in sight. -/
import Derived.Test.YtfmpdbngpknmaaaDoorCStepLaw
import Derived.Test.YtfmpdbngpknmaaaDoorBJ
namespace Go.Proofs.YtfmpdbngpknmaaaDoor
set_option linter.unusedSimpArgs false
set_option linter.unusedVariables false

def lookC (key : List UInt8) : Cd := ⟨7, 0, key, [], 0, 0, false, 0, false, 0, 0, false, false, 0, -1, false⟩
/-- what goes later is gone with what went ahead -/
theorem gone_le {n m : Int} {x : It} (h : n ≤ m) (hg : goneB n x = true) : goneB m x = true := by
  simp only [goneB, Bool.and_eq_true, Bool.not_eq_true', decide_eq_false_iff_not, decide_eq_true_eq] at hg ⊢
  exact ⟨hg.1, by omega⟩
theorem live_live {X : St} {n m : Int} (h : n ≤ m) : liveF (liveF X n) m = liveF X m := by
  unfold liveF
  by_cases h1 : X.flush ≠ 0 ∧ X.flush ≤ n
  · rw [if_pos h1, if_pos (⟨h1.1, by omega⟩ : X.flush ≠ 0 ∧ X.flush ≤ m), if_neg (by simp)]
    simp
  · rw [if_neg h1]
    by_cases h2 : X.flush ≠ 0 ∧ X.flush ≤ m
    · rw [if_pos h2, if_pos h2]
    · rw [if_neg h2, if_neg h2, List.filter_filter]
      congr 1
      refine List.filter_congr fun x _ => ?_
      cases hm : goneB m x with
      | true => simp
      | false =>
        have : goneB n x = false := Bool.eq_false_iff.2 fun e => by rw [gone_le h e] at hm; cases hm
        simp [this]
/-- what Apply does depends on what is left alone -/
theorem app_live {X Y : St} {now : Int} (c : Cd) (most : Int) (h : liveF X now = liveF Y now) : applyF X now c most = applyF Y now c most := by
  unfold applyF; rw [h]
theorem look_may {now : Int} {key : List UInt8} : (mayB (lookC key) = true ∧ 1 ≤ now ∧ now ≤ 1099511627776) ↔ (mayB (getC key) = true ∧ 1 ≤ now ∧ now ≤ 1099511627776) := by
  have : mayB (lookC key) = mayB (getC key) := by simp [mayB, lookC, getC]
  rw [this]
theorem look_get (X : St) (now : Int) (key : List UInt8) (most : Int) : (applyF X now (lookC key) most).2.st = (applyF X now (getC key) most).2.st ∧ (applyF X now (lookC key) most).2.it.val = (applyF X now (getC key) most).2.it.val ∧ (applyF X now (lookC key) most).2.it.cas = (applyF X now (getC key) most).2.it.cas := by
  unfold applyF
  by_cases h : mayB (getC key) = true ∧ 1 ≤ now ∧ now ≤ 1099511627776
  · rw [if_pos h, if_pos (look_may.2 h)]
    show (doF (liveF X now) now (lookC key) most (atF (liveF X now).items key) (isF (liveF X now).items key)).2.st = (doF (liveF X now) now (getC key) most (atF (liveF X now).items key) (isF (liveF X now).items key)).2.st ∧ _
    cases hi : isF (liveF X now).items key <;> simp [hi, doF, lookC, getC, lookF, getF, gotF, toldF]
  · rw [if_neg h, if_neg (fun h' => h (look_may.1 h'))]
    exact ⟨rfl, rfl, rfl⟩
theorem look_state (X : St) (now : Int) (key : List UInt8) (most : Int) (h : (applyF X now (lookC key) most).2.st ≠ 0) : (applyF X now (lookC key) most).1 = liveF X now := by
  unfold applyF at h ⊢
  by_cases hm : mayB (lookC key) = true ∧ 1 ≤ now ∧ now ≤ 1099511627776
  · rw [if_pos hm]
    have e : ∀ Z i b, doF Z now (lookC key) most i b = lookF Z i b := fun Z i b => by simp [doF, lookC]
    rw [e]
    unfold lookF
    split <;> rfl
  · rw [if_neg hm] at h; exact absurd rfl h
/-- two states that are the same from a moment on -/
structure Lk (i : Nat) (X Y : St) : Prop where
  eq : ∀ m : Int, 10 + (i : Int) ≤ m → liveF X m = liveF Y m
  nX : Nice 5000 (2 * i) X
  nY : Nice 5000 (2 * i) Y
theorem nice_zero (most : Int) : Nice most 0 St.zero := ⟨Sorted.nil, Nat.le_refl _, by simp [St.zero]⟩
theorem Lk.start : Lk 0 St.zero St.zero := ⟨fun _ _ => rfl, nice_zero _, nice_zero _⟩
theorem Lk.skip {i : Nat} {X Y : St} (h : Lk i X Y) : Lk (i + 1) X Y := ⟨fun m hm => h.eq m (by omega), h.nX.mono (by omega), h.nY.mono (by omega)⟩
theorem Lk.app {i : Nat} {X Y : St} (h : Lk i X Y) (c : Cd) : applyF X (10 + (i : Int)) c 5000 = applyF Y (10 + (i : Int)) c 5000 := app_live c 5000 (h.eq _ (Int.le_refl _))
theorem Lk.step {i : Nat} {X Y : St} (h : Lk i X Y) (c : Cd) : Nice 5000 (2 * i + 1) (applyF X (10 + (i : Int)) c 5000).1 := nice_app (by decide) h.nX
theorem Lk.next {i : Nat} {Z : St} (h : Nice 5000 (2 * i + 1) Z) : Lk (i + 1) Z Z := ⟨fun _ _ => rfl, h.mono (by omega), h.mono (by omega)⟩
theorem Lk.looked {i : Nat} {Z : St} (h : Nice 5000 (2 * i + 1) Z) : Lk (i + 1) (liveF Z (10 + (i : Int))) Z := ⟨fun m hm => live_live (by omega), (h.live _).mono (by omega), h.mono (by omega)⟩
theorem Nice.good {most : Int} {n : Nat} {X : St} (h : Nice most n X) (hn : n ≤ 10000000) (hm : most ≤ 100000000) : Good X :=
  ⟨h.sorted, Nat.le_trans h.len hn, fun x hx => by have := h.bd x hx; exact ⟨by omega, by omega, this.2.2.1, this.2.2.2⟩⟩
end Go.Proofs.YtfmpdbngpknmaaaDoor
