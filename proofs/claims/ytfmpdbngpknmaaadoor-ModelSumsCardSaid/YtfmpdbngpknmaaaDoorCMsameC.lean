/- Same as a call in the walk of a law. -/
import Derived.Test.YtfmpdbngpknmaaaDoorCMsame
import Derived.Test.YtfmpdbngpknmaaaDoorBJ
namespace Go.Proofs.YtfmpdbngpknmaaaDoor
set_option linter.unusedSimpArgs false
set_option linter.unusedVariables false
open Go.RowKit

theorem st_own {en : List EN} {X : St} {v : SC} {ρ : Nat → RE} {w : World} (h : StOf en X v) (hHp : Hp ρ (· < en.length) en w) (hHo : Ho ρ (· < en.length) en) : OwnI 0 w (v.den ρ) X.items := by
  rcases h with ⟨rfl, hx⟩ | ⟨d, rfl, hd⟩
  · exact .inl ⟨none, rfl, hx⟩
  · exact own_hp hHp hHo (by rw [nthS_eq] at hd; exact (List.getElem?_eq_some_iff.1 hd).1) hd
def rowSame (en : List EN) : List SV → Option (Prop × SV)
  | [.g [v, .i .u64 c, .i .i64 f], .g [v', .i .u64 c', .i .i64 f']] => some ((∃ X : St, StOf en X v ∧ StOf en X v' ∧ X.cas = c ∧ X.flush = f ∧ c' = c ∧ f' = f ∧ X.items.length ≤ 100000000), .c (.b true))
  | _ => none
theorem rowSame_ok {en : List EN} {ρ : Nat → RE} {w : World} {xs : List SV} {p : Prop} {v : SV} (h : rowSame en xs = some (p, v)) (hp : p) (hHp : Hp ρ (· < en.length) en w) (hHo : Ho ρ (· < en.length) en) :
    v.wf (· < en.length) ∧ Calls Tryd.prog 14 (xs.map (SV.den ρ)).toArray w fun e w' => e = .returned (v.den ρ) ∧ Below w.heap.size w w' := by
  unfold rowSame at h
  split at h <;> simp only [Option.some.injEq, Prod.mk.injEq, reduceCtorEq] at h
  obtain ⟨rfl, rfl⟩ := h
  obtain ⟨X, h1, h2, rfl, rfl, rfl, rfl, hn⟩ := hp
  exact ⟨trivial, same_own X _ _ w (st_own h1 hHp hHo) (st_own h2 hHp hHo) hn⟩
/-- shown; get; Same -/
def lC2 : Ctr := fun f en xs => match f with
  | 13 => rowGet xs
  | 11 => match xs with
    | [] => some (True, .c (.b true))
    | _ => none
  | 14 => rowSame en xs
  | _ => none
theorem lC2_ok {C : Cx} (hP : C.P = Tryd.prog) (hE : EnvC C) : CtrOk C lC2 := by
  intro f en xs p v h hp ρ w hup hHp hHo hinj hwf
  unfold lC2 at h
  split at h
  · rw [hP]; exact ⟨fun args w => Tryd.call13 args w, rowGet_ok h⟩
  · rw [hP]
    split at h <;> simp only [Option.some.injEq, Prod.mk.injEq, reduceCtorEq] at h
    obtain ⟨_, rfl⟩ := h
    exact ⟨fun args w => Tryd.call11 args w, trivial, shown_ok w (hE w hup)⟩
  · rw [hP]; exact ⟨fun args w => Tryd.call14 args w, rowSame_ok h hp hHp hHo⟩
  · cases h
end Go.Proofs.YtfmpdbngpknmaaaDoor
