/- ambryref20.Same of two equal requests whose commands are rows of the walk. -/
import Derived.Test.YtlbbldcfkalhlaaGreatDoorCTsame
namespace Go.Proofs.YtlbbldcfkalhlaaGreatDoor
set_option linter.unusedSimpArgs false
set_option linter.unusedVariables false
open Go.RowKit
set_option maxRecDepth 100000

theorem raw_of_row {ρ : Nat → RE} {en : List EN} {w : World} (hHp : Hp ρ (· < en.length) en w) (hHo : Ho ρ (· < en.length) en) {N : Nat} {cs : List Cd} (hN : zD en N = some (rwE 37 16 cs.length (flatG rcS cs))) :
    ∃ a c, (SC.rw N cs.length).den ρ = .slice a cs.length c ∧ cs.length ≤ c ∧ RawC w a cs ∧ cs.length ≤ 9223372036854775807 := by
  have lN : N < en.length := by rw [nthS_eq] at hN; exact (List.getElem?_eq_some_iff.1 hN).1
  obtain ⟨_, hL, hO⟩ := hHo N _ _ _ lN hN
  rcases hO with ⟨h1, h2, h3, h4, h5⟩ | ⟨h1, h2, h3⟩
  · refine ⟨some ⟨(ρ N).blk, 0, none⟩, (ρ N).cap, by simp only [SC.den]; rw [rwOf_on h1], h4, fun k c hc => ?_, by unfold maxLen at h5; omega⟩
    have key : ∀ (j : Nat) v, (rcA c)[j]? = some v → w.cell? ⟨(ρ N).blk, 0 + k * 16 + j, none⟩ = some v := by
      intro j v hv
      have hd : dens ρ (rcS c) = rcA c := rfl
      have hj : j < 16 := by have := (List.getElem?_eq_some_iff.1 hv).1; simpa [rcA] using this
      obtain ⟨y, hy⟩ : ∃ y, (rcS c)[j]? = some y := ⟨_, List.getElem?_eq_getElem (by rw [rcS_len]; exact hj)⟩
      have hyv : y.den ρ = v := by
        rw [← hd] at hv
        simp only [dens, List.getElem?_map, hy, Option.map_some, Option.some.injEq] at hv
        exact hv
      have hf := flatG_nth (z := 16) rcS_len hc hj
      rw [nthS_eq, hy] at hf
      have := hHp.cellAt lN hN hf
      rw [h2, hyv] at this
      rw [← this]
      simp [Nat.add_assoc]
    refine ⟨_, _, rfl, ?_, key⟩
    exact Go.block_lt_of_cell (a := ⟨(ρ N).blk, 0 + k * 16 + 0, none⟩) (key 0 _ rfl)
  · refine ⟨none, 0, by simp only [SC.den]; rw [rwOf_off h1], by omega, fun k c hc => ?_, by omega⟩
    have := (List.getElem?_eq_some_iff.1 hc).1
    omega
def rowSame (r : Rq) (en : List EN) : List SV → Option (Prop × SV)
  | [.g xs, .g ys] => some (∃ N N', xs = rqS (.rw N r.cmds.length) r ∧ ys = rqS (.rw N' r.cmds.length) r ∧ zD en N = some (rwE 37 16 r.cmds.length (flatG rcS r.cmds)) ∧ zD en N' = some (rwE 37 16 r.cmds.length (flatG rcS r.cmds)), .c (.b true))
  | _ => none
theorem rowSame_ok {r : Rq} {ρ : Nat → RE} {en : List EN} {w : World} {xs : List SV} {p : Prop} {v : SV} (h : rowSame r en xs = some (p, v)) (hp : p) (hHp : Hp ρ (· < en.length) en w) (hHo : Ho ρ (· < en.length) en) :
    v.wf (· < en.length) ∧ Calls Tryz.prog 11 (xs.map (SV.den ρ)).toArray w fun e w' => e = .returned (v.den ρ) ∧ Below w.heap.size w w' := by
  unfold rowSame at h
  split at h <;> simp only [Option.some.injEq, Prod.mk.injEq, reduceCtorEq] at h
  obtain ⟨rfl, rfl⟩ := h
  obtain ⟨N, N', rfl, rfl, h1, h2⟩ := hp
  obtain ⟨a, c, e1, c1, R1, h3⟩ := raw_of_row hHp hHo h1
  obtain ⟨a', c', e2, c2, R2, _⟩ := raw_of_row hHp hHo h2
  refine ⟨trivial, ?_⟩
  have := same_w R1 R2 rfl c1 c2 h3
  rw [← e1, ← e2] at this
  exact this
end Go.Proofs.YtlbbldcfkalhlaaGreatDoor
