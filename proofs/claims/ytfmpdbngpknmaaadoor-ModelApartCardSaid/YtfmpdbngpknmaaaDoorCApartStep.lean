/- ModelApart: what a round does. No program in sight. -/
import Derived.Test.YtfmpdbngpknmaaaDoorCApartLaw
namespace Go.Proofs.YtfmpdbngpknmaaaDoor
set_option linter.unusedSimpArgs false
set_option linter.unusedVariables false
structure Apq (key : List UInt8) (i : Nat) (X Y : St) : Prop where
  ap : Ap (10 + (i : Int)) key X Y
  nX : Nice 6000 i X
  nY : Nice 6000 i Y
theorem Apq.start (key : List UInt8) : Apq key 0 St.zero St.zero := ⟨(Ap.start key).mono (by decide), ⟨Sorted.nil, Nat.le_refl _, by simp [St.zero]⟩, ⟨Sorted.nil, Nat.le_refl _, by simp [St.zero]⟩⟩
theorem Apq.skip {key : List UInt8} {i : Nat} {X Y : St} (h : Apq key i X Y) : Apq key (i + 1) X Y := ⟨h.ap.mono (by omega), h.nX.mono (by omega), h.nY.mono (by omega)⟩
theorem told_may {X : St} {now : Int} {c : Cd} {most : Int} (h : (applyF X now c most).2.st ≠ 0) : mayB c = true ∧ 1 ≤ now ∧ now ≤ 1099511627776 := by
  refine Decidable.byContradiction fun hn => h ?_
  rw [app_bad' hn]; rfl
theorem Apq.own {key : List UInt8} {i : Nat} {X Y : St} {c : Cd} (h : Apq key i X Y) (hk : c.key = key) (hc : c.hasCas = false) (h6 : c.op ≠ 6) (hs : (applyF X (10 + (i : Int)) c 6000).2.st ≠ 0) : Apq key (i + 1) (applyF X (10 + (i : Int)) c 6000).1 Y := by
  subst hk
  exact ⟨(h.ap.own (Int.le_refl _) h.nX.sorted (told_may hs) hc h6).mono (by omega), nice_app (by decide) h.nX, h.nY.mono (by omega)⟩
theorem Apq.bare {key : List UInt8} {i : Nat} {X Y : St} {c : Cd} (h : Apq key i X Y) (hk : c.key ≠ key) (hc : c.hasCas = false) (h6 : c.op ≠ 6) : bare (applyF X (10 + (i : Int)) c 6000).2 = bare (applyF Y (10 + (i : Int)) c 6000).2 := by
  by_cases hm : mayB c = true ∧ 1 ≤ 10 + (i : Int) ∧ 10 + (i : Int) ≤ 1099511627776
  · exact (h.ap.both (Int.le_refl _) h.nX.sorted h.nY.sorted hm hc h6 hk).2
  · rw [app_bad' hm, app_bad' hm]
theorem Apq.both {key : List UInt8} {i : Nat} {X Y : St} {c : Cd} (h : Apq key i X Y) (hk : c.key ≠ key) (hc : c.hasCas = false) (h6 : c.op ≠ 6) (hs : (applyF X (10 + (i : Int)) c 6000).2.st ≠ 0) : Apq key (i + 1) (applyF X (10 + (i : Int)) c 6000).1 (applyF Y (10 + (i : Int)) c 6000).1 :=
  ⟨((h.ap.both (Int.le_refl _) h.nX.sorted h.nY.sorted (told_may hs) hc h6 hk).1).mono (by omega), nice_app (by decide) h.nX, nice_app (by decide) h.nY⟩
end Go.Proofs.YtfmpdbngpknmaaaDoor
