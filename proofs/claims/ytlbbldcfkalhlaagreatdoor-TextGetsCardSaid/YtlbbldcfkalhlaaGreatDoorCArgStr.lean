/- Arguments that are slices of texts, and of truths, opened. -/
import Derived.Test.YtlbbldcfkalhlaaGreatDoorBK
import Derived.Test.YtlbbldcfkalhlaaGreatDoorBT
import Derived.SliceStrings
import Derived.Deep.Grids
namespace Go.Proofs.YtlbbldcfkalhlaaGreatDoor
set_option linter.unusedSimpArgs false
set_option linter.unusedVariables false
open Go.ChangeShapes Go.WideShapes Go.ChangeAt Go.RowKit Go.Deep

section
variable {H : Type} {enc : TypeId × Value → H} {P : Program} {w : World}
theorem open_strs {base : Nat} {t e : TypeId} {v : Value} {d : DataW H} {ps : List MemPlace} (ht : P.underlying t = some (.slice e)) (he : P.underlying e = some .string) (hc : P.cellsOf e = 1) (hv : Value.okWide P w .any base t v) (h : DataW.Trod enc P w 0 (fun _ => true) true t v d ps) :
    ∃ (A : Option Addr) (n c : Nat) (ws : List (List UInt8)), v = .slice A n c ∧ ws.length = n ∧ n ≤ c ∧ c ≤ maxLen ∧ RawS w w.heap.size A ws ∧ ∀ x ∈ ws, x.length ≤ 9223372036854775807 := by
  obtain ⟨a0, len, cap, rfl⟩ := okWide_slice ht hv
  obtain ⟨fuel, hf⟩ := h
  rcases open_strings ht he hc hf with ⟨h0, _⟩ | ⟨a, len', cap', ss, jB, _, hl, hm, hz, _, hcell, hlen⟩
  · have e0 : Value.slice a0 len cap = .slice none 0 0 := by simpa [Value.cells] using h0
    exact ⟨none, 0, 0, [], e0, rfl, Nat.le_refl _, Nat.zero_le _, fun k x hx => by simp at hx, fun x hx => by simp at hx⟩
  · have e0 : Value.slice a0 len cap = .slice (some a) len' cap' := by simpa [Value.cells] using jB
    simp only [if_true] at hz
    refine ⟨some a, len', cap', (ss.take len').map fun s => s.data.toList, e0, by simp; omega, hl, hm, ?_, ?_⟩
    · intro k x hx
      rw [List.getElem?_map, Option.map_eq_some_iff] at hx
      obtain ⟨s, hs, rfl⟩ := hx
      rw [List.getElem?_take] at hs
      split at hs
      · rename_i hk
        have hks := (List.getElem?_eq_some_iff.1 hs).1
        have h1 := hcell k (by omega)
        have h0 := hcell 0 (by omega)
        obtain ⟨b, o, rfl, hb⟩ := plain_addr h0
        refine ⟨b, o, rfl, hb, Nat.ne_of_lt hb, ?_⟩
        have e1 : ss.getD k ByteArray.empty = s := by rw [List.getD_eq_getElem?_getD, hs]; rfl
        rw [e1] at h1
        rw [show (⟨b, o, none⟩ : Addr).add k = ⟨b, o + k, none⟩ from Go.WideShapes.add_plain ..] at h1
        rw [h1]
      · cases hs
    · intro x hx
      rw [List.mem_map] at hx
      obtain ⟨s, hs, rfl⟩ := hx
      have := hlen s (List.mem_of_mem_take hs)
      unfold maxLen at this
      have h2 : s.data.toList.length = s.size := Array.length_toList
      omega
theorem open_trus {base : Nat} {t e : TypeId} {v : Value} {d : DataW H} {ps : List MemPlace} (ht : P.underlying t = some (.slice e)) (he : P.underlying e = some .bool) (hc : P.cellsOf e = 1) (hv : Value.okWide P w .any base t v) (h : DataW.Trod enc P w 0 (fun _ => true) true t v d ps) :
    ∃ (A : Option Addr) (n c : Nat) (B : Nat → Bool), v = .slice A n c ∧ n ≤ c ∧ c ≤ maxLen ∧ ∀ k, k < n → ∃ b o, A = some ⟨b, o, none⟩ ∧ b < w.heap.size ∧ w.cell? ⟨b, o + k, none⟩ = some (.bool (B k)) := by
  obtain ⟨a0, len, cap, rfl⟩ := okWide_slice ht hv
  obtain ⟨fuel, hf⟩ := h
  rcases open_bools ht he hc hf with ⟨h0, _⟩ | ⟨a, len', cap', B, jB, _, hl, hm, _, hcell⟩
  · have e0 : Value.slice a0 len cap = .slice none 0 0 := by simpa [Value.cells] using h0
    exact ⟨none, 0, 0, fun _ => false, e0, Nat.le_refl _, Nat.zero_le _, fun k hk => absurd hk (by omega)⟩
  · have e0 : Value.slice a0 len cap = .slice (some a) len' cap' := by simpa [Value.cells] using jB
    refine ⟨some a, len', cap', B, e0, hl, hm, fun k hk => ?_⟩
    have h1 := hcell k (by omega)
    have h0 := hcell 0 (by omega)
    obtain ⟨b, o, rfl, hb⟩ := plain_addr h0
    rw [show (⟨b, o, none⟩ : Addr).add k = ⟨b, o + k, none⟩ from Go.WideShapes.add_plain ..] at h1
    exact ⟨b, o, rfl, hb, h1⟩
end
end Go.Proofs.YtlbbldcfkalhlaaGreatDoor
