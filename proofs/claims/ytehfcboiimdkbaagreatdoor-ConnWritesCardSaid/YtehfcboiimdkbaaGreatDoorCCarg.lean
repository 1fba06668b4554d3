/- Arguments that are slices of texts, and of whole numbers, opened. Printed by gen_carg.py. -/
import Derived.Test.YtehfcboiimdkbaaGreatDoorBK
import Derived.Test.YtehfcboiimdkbaaGreatDoorCEmq
import Derived.Deep.Grids
import Derived.SliceStrings
namespace Go.Proofs.YtehfcboiimdkbaaGreatDoor
set_option linter.unusedSimpArgs false
set_option linter.unusedVariables false
open Go.ChangeShapes Go.WideShapes Go.ChangeAt Go.RowKit Go.Deep
def RawI (w : World) (a : Option Addr) (n : Nat) : Prop := ∀ k, k < n → ∃ b o z, a = some ⟨b, o, none⟩ ∧ b < w.heap.size ∧ w.cell? ⟨b, o + k, none⟩ = some (.int .i64 z)
theorem RawI.rd {w : World} {a : Option Addr} {n : Nat} (h : RawI w a n) {D : Cx} (hS : D.S = Non) (hw : D.w0 = w) {k : Nat} (hk : k < n) : ∃ b o z, a = some ⟨b, o, none⟩ ∧ D.rd b (o + k) 1 = some [.i .i64 z] := by
  obtain ⟨b, o, z, ha, hb, hc⟩ := h k hk
  exact ⟨b, o, z, ha, rd_arg (vs := [.int .i64 z]) hS hw hb (fun j v hv => by
    have hj : j = 0 := by have := (List.getElem?_eq_some_iff.1 hv).1; simp at this; exact this
    subst hj
    simp only [List.getElem?_cons_zero, Option.some.injEq] at hv
    rw [← hv]; exact hc) rfl⟩
set_option maxRecDepth 100000 in
theorem open_intl {H : Type} {enc : TypeId × Value → H} {W : World} {base : Nat} {v : Value} {d : DataW H} {ps : List MemPlace} (hv : Value.okWide Tryz.prog W .any base 37 v) (h : DataW.Trod enc Tryz.prog W 0 (fun _ => true) true 37 v d ps) :
    ∃ (A : Option Addr) (n c : Nat), v = .slice A n c ∧ n ≤ maxLen ∧ RawI W A n := by
  obtain ⟨a0, len, cap, rfl⟩ := okWide_slice Tryz.underlying37 hv
  obtain ⟨fuel, hf⟩ := h
  obtain ⟨A, n, c, jB, hn, hel⟩ := open_nums Tryz.underlying37 Tryz.underlying3 (by kernel_rfl) hf
  have e0 : Value.slice a0 len cap = .slice A n c := by simpa [Value.cells] using jB
  refine ⟨A, n, c, e0, hn, fun k hk => ?_⟩
  obtain ⟨a, q, ha, hc, _⟩ := hel k hk
  obtain ⟨a', q', ha', hc', _⟩ := hel 0 (by omega)
  rw [ha] at ha'; cases ha'
  obtain ⟨b, o, rfl, hb⟩ := plain_addr hc'
  refine ⟨b, o, q, ha, hb, ?_⟩
  rw [Go.WideShapes.add_plain] at hc
  exact hc
section
variable {H : Type} {enc : TypeId × Value → H} {P : Program} {w : World}
theorem open_strs {base : Nat} {t e : TypeId} {v : Value} {d : DataW H} {ps : List MemPlace} (ht : P.underlying t = some (.slice e)) (he : P.underlying e = some .string) (hc : P.cellsOf e = 1) (hv : Value.okWide P w .any base t v) (h : DataW.Trod enc P w 0 (fun _ => true) true t v d ps) :
    ∃ (A : Option Addr) (n c : Nat) (ws : List (List UInt8)), v = .slice A n c ∧ ws.length = n ∧ n ≤ c ∧ c ≤ maxLen ∧ RawS w w.heap.size A ws ∧ ∀ x ∈ ws, x.length ≤ 9223372036854775807 := by
  obtain ⟨a0, len, cap, rfl⟩ := okWide_slice ht hv
  obtain ⟨fuel, hf⟩ := h
  rcases open_strings ht he hc hf with ⟨h0, _⟩ | ⟨a, len', cap', ss, jB, _, hl, hm, hz, _, hcell, hlen⟩
  · have e0 : Value.slice a0 len cap = .slice none 0 0 := by simpa [Value.cells] using h0
    exact ⟨none, 0, 0, [], e0, rfl, Nat.le_refl _, Nat.zero_le _, fun k x hx => by simp at hx, fun x hx => by simp at hx⟩
  · have e0 : Value.slice a0 len cap = .slice (some a) len' cap' := by simpa [Value.cells] using jB
    simp only [if_true] at hz
    refine ⟨some a, len', cap', (ss.take len').map fun s => s.data.toList, e0, by simp; omega, hl, hm, ?_, ?_⟩
    · intro k x hx
      rw [List.getElem?_map, Option.map_eq_some_iff] at hx
      obtain ⟨s, hs, rfl⟩ := hx
      rw [List.getElem?_take] at hs
      split at hs
      · rename_i hk
        have hks := (List.getElem?_eq_some_iff.1 hs).1
        have h1 := hcell k (by omega)
        have h0 := hcell 0 (by omega)
        obtain ⟨b, o, rfl, hb⟩ := plain_addr h0
        refine ⟨b, o, rfl, hb, Nat.ne_of_lt hb, ?_⟩
        have e1 : ss.getD k ByteArray.empty = s := by rw [List.getD_eq_getElem?_getD, hs]; rfl
        rw [e1] at h1
        rw [show (⟨b, o, none⟩ : Addr).add k = ⟨b, o + k, none⟩ from Go.WideShapes.add_plain ..] at h1
        rw [h1]
      · cases hs
    · intro x hx
      rw [List.mem_map] at hx
      obtain ⟨s, hs, rfl⟩ := hx
      have := hlen s (List.mem_of_mem_take hs)
      unfold maxLen at this
      have h2 : s.data.toList.length = s.size := Array.length_toList
      omega
end
theorem RawS.toT {w : World} {g : Nat} {a : Option Addr} {ws : List (List UInt8)} (h : RawS w g a ws) : RawT w a ws := fun k x hx => by
  obtain ⟨b, o, ha, hb, _, hc⟩ := h k x hx
  exact ⟨b, o, ha, hb, hc⟩
theorem RawI.upd {w w' : World} {a : Option Addr} {n : Nat} (h : RawI w a n) (hu : Upd Non w w') : RawI w' a n := by
  intro k hk
  obtain ⟨b, o, z, ha, hb, hc⟩ := h k hk
  exact ⟨b, o, z, ha, Nat.lt_of_lt_of_le hb hu.size, (hu.cell (p := ⟨b, o + k, none⟩) hb (fun h => h)).trans hc⟩
end Go.Proofs.YtehfcboiimdkbaaGreatDoor
