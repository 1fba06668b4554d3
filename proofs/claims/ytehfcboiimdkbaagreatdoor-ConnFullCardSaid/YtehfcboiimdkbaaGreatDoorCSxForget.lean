/- A walk may forget entries that nothing refers to. No program in sight. -/
import Derived.Test.YtehfcboiimdkbaaGreatDoorBB
namespace Go.Proofs.YtehfcboiimdkbaaGreatDoor
set_option linter.unusedSimpArgs false
set_option linter.unusedVariables false
open Go.RowKit
section
variable {C : Cx} {nt : Nat} {sl : List (Nat × SV)} {en : List EN} {k : List KI}
theorem getS_mem : ∀ {sl : List (Nat × SV)} {d : Nat} {v : SV}, qy sl d = some v → (d, v) ∈ sl
  | [], d, v, h => by simp [qy] at h
  | (e, u) :: s, d, v, h => by
    simp only [qy] at h
    split at h
    · rename_i e'; subst e'; simp only [Option.some.injEq] at h; subst h; simp
    · exact List.mem_cons_of_mem _ (getS_mem h)
theorem nth_pre {l tl : List EN} {c : Nat} (h : c < l.length) : zD (l ++ tl) c = zD l c := by
  rw [nthS_eq, nthS_eq, List.getElem?_append_left h]
theorem Run_forget {sl' : List (Nat × SV)} (en' tl : List EN) (hen : en = en' ++ tl) (hn : C.n0 ≤ en'.length) (hc : ∀ e ∈ en', wfs (· < en'.length) e.cells) (hs : sub sl' sl) (hw : ∀ x ∈ sl', x.2.wf (· < en'.length)) (h : Run C k nt sl' en') : Run C k nt sl en := by
  intro ρ a w hr
  subst hen
  have hlt : ∀ {c}, c < en'.length → c < (en' ++ tl).length := fun h => by rw [List.length_append]; omega
  have hdd : ∀ {c}, c < en'.length → zD (en' ++ tl) c = zD en' c := fun h => nth_pre h
  refine h ρ a w ⟨⟨?_, ?_, ?_, hr.hw.up, ?_, hr.hw.ini⟩, ?_, hr.sz, hr.df, hn⟩
  · intro c t cells mu hc' he
    have := hr.hw.hp c t cells mu (hlt hc') (by rw [hdd hc']; exact he)
    refine ⟨this.heap, ?_, this.dead, this.non⟩
    have hm : (⟨t, cells, mu⟩ : EN) ∈ en' := by rw [nthS_eq] at he; exact List.mem_of_getElem? he
    exact hc _ hm
  · intro c t cells mu hc' he
    exact hr.hw.ho c t cells mu (hlt hc') (by rw [hdd hc']; exact he)
  · intro c d hc' hd' h1 h2 h3
    exact hr.hw.inj c d (hlt hc') (hlt hd') (by rw [hdd hc']; exact h1) (by rw [hdd hd']; exact h2) h3
  · intro c t cells hc' he
    exact hr.hw.mu c t cells (hlt hc') (by rw [hdd hc']; exact he)
  · intro d v hd
    refine ⟨(hr.tm d v (hs d v hd)).1, ?_⟩
    exact hw (d, v) (getS_mem hd)
end
end Go.Proofs.YtehfcboiimdkbaaGreatDoor
