/- Arguments that are slices of texts, and of whole numbers, opened. Printed by gen_carg.py. -/
import Derived.Test.YtehfcboiimdkbaaGreatDoorBK
import Derived.Test.YtehfcboiimdkbaaGreatDoorCEmq
import Derived.Deep.Grids
import Derived.SliceStrings
namespace Go.Proofs.YtehfcboiimdkbaaGreatDoor
set_option linter.unusedSimpArgs false
set_option linter.unusedVariables false
open Go.ChangeShapes Go.WideShapes Go.ChangeAt Go.RowKit Go.Deep
def RawI (w : World) (a : Option Addr) (n : Nat) : Prop := ∀ k, k < n → ∃ b o z, a = some ⟨b, o, none⟩ ∧ b < w.heap.size ∧ w.cell? ⟨b, o + k, none⟩ = some (.int .i64 z)
theorem RawI.rd {w : World} {a : Option Addr} {n : Nat} (h : RawI w a n) {D : Cx} (hS : D.S = Non) (hw : D.w0 = w) {k : Nat} (hk : k < n) : ∃ b o z, a = some ⟨b, o, none⟩ ∧ D.rd b (o + k) 1 = some [.i .i64 z] := by
  obtain ⟨b, o, z, ha, hb, hc⟩ := h k hk
  exact ⟨b, o, z, ha, rd_arg (vs := [.int .i64 z]) hS hw hb (fun j v hv => by
    have hj : j = 0 := by have := (List.getElem?_eq_some_iff.1 hv).1; simp at this; exact this
    subst hj
    simp only [List.getElem?_cons_zero, Option.some.injEq] at hv
    rw [← hv]; exact hc) rfl⟩
set_option maxRecDepth 100000 in
theorem open_intl {H : Type} {enc : TypeId × Value → H} {W : World} {base : Nat} {v : Value} {d : DataW H} {ps : List MemPlace} (hv : Value.okWide Tryz.prog W .any base 37 v) (h : DataW.Trod enc Tryz.prog W 0 (fun _ => true) true 37 v d ps) :
    ∃ (A : Option Addr) (n c : Nat), v = .slice A n c ∧ n ≤ maxLen ∧ RawI W A n := by
  obtain ⟨a0, len, cap, rfl⟩ := okWide_slice Tryz.underlying37 hv
  obtain ⟨fuel, hf⟩ := h
  obtain ⟨A, n, c, jB, hn, hel⟩ := open_nums Tryz.underlying37 Tryz.underlying3 (by kernel_rfl) hf
  have e0 : Value.slice a0 len cap = .slice A n c := by simpa [Value.cells] using jB
  refine ⟨A, n, c, e0, hn, fun k hk => ?_⟩
  obtain ⟨a, q, ha, hc, _⟩ := hel k hk
  obtain ⟨a', q', ha', hc', _⟩ := hel 0 (by omega)
  rw [ha] at ha'; cases ha'
  obtain ⟨b, o, rfl, hb⟩ := plain_addr hc'
  refine ⟨b, o, q, ha, hb, ?_⟩
  rw [Go.WideShapes.add_plain] at hc
  exact hc
section
variable {H : Type} {enc : TypeId × Value → H} {P : Program} {w : World}
end
theorem RawI.upd {w w' : World} {a : Option Addr} {n : Nat} (h : RawI w a n) (hu : Upd Non w w') : RawI w' a n := by
  intro k hk
  obtain ⟨b, o, z, ha, hb, hc⟩ := h k hk
  exact ⟨b, o, z, ha, Nat.lt_of_lt_of_le hb hu.size, (hu.cell (p := ⟨b, o + k, none⟩) hb (fun h => h)).trans hc⟩
end Go.Proofs.YtehfcboiimdkbaaGreatDoor
