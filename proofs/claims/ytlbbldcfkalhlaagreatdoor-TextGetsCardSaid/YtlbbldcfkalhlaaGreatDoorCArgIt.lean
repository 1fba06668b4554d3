/- Arguments that are slices of items, opened. -/
import Derived.Test.YtlbbldcfkalhlaaGreatDoorCArgRow
import Derived.Test.YtlbbldcfkalhlaaGreatDoorCTgetsW
namespace Go.Proofs.YtlbbldcfkalhlaaGreatDoor
set_option linter.unusedSimpArgs false
set_option linter.unusedVariables false
open Go.ChangeShapes Go.WideShapes Go.ChangeAt Go.RowKit Go.Deep

theorem slice_cap {H : Type} {enc : TypeId × Value → H} {P : Program} {w : World} {t e : TypeId} {A : Option Addr} {n c : Nat} {d : DataW H} {ps : List MemPlace} (ht : P.underlying t = some (.slice e)) (h : DataW.Trod enc P w 0 (fun _ => true) true t (.slice A n c) d ps) : n ≤ c ∧ c ≤ maxLen := by
  obtain ⟨fuel, hf⟩ := h
  rcases DataW.trod_slice ht hf with ⟨h0, _⟩ | ⟨a, len, cap, _, _, _, _, h1, _, _, hl, hm, _⟩
  · have e0 : Value.slice A n c = .slice none 0 0 := by simpa [Value.cells] using h0
    cases e0; exact ⟨Nat.le_refl _, Nat.zero_le _⟩
  · have e0 : Value.slice A n c = .slice (some a) len cap := by simpa [Value.cells] using h1
    cases e0; exact ⟨hl, hm⟩
def itKs : List KD := [.s, .i .u32, .s, .i .i64, .i .u64, .i .i64, .b, .b]
def itOf (u : Nat → Value) : It := ⟨strV (u 0), intV (u 1), strV (u 2), intV (u 3), intV (u 4), intV (u 5), truV (u 6), truV (u 7)⟩
set_option maxRecDepth 100000 in
theorem open_itl {H : Type} {enc : TypeId × Value → H} {W : World} {base : Nat} {v : Value} {d : DataW H} {ps : List MemPlace} (hv : Value.okWide Tryz.prog W .any base 43 v) (h : DataW.Trod enc Tryz.prog W 0 (fun _ => true) true 43 v d ps) :
    ∃ (A : Option Addr) (n c : Nat) (xs : List It), v = .slice A n c ∧ n ≤ c ∧ c ≤ maxLen ∧ RawIt W A n xs ∧ ∀ x ∈ xs, ItB x ∧ x.key.length ≤ 9223372036854775807 := by
  obtain ⟨A, n, c, rfl, hn, hel⟩ := open_rows (ks := itKs) Tryz.underlying43 (by kernel_rfl) (by decide) hv h
  obtain ⟨hnc, hcm⟩ := slice_cap Tryz.underlying43 h
  obtain ⟨F, hF⟩ : ∃ F : Nat → It, F = fun k => itOf fun j => match A with | some a => (W.cell? ⟨a.block, a.off + k * 8 + j, none⟩).getD undef | none => undef := ⟨_, rfl⟩
  have key : ∀ k, k < n → ∃ b o, A = some ⟨b, o, none⟩ ∧ b < W.heap.size ∧ (∀ (j : Nat) v, (itVx (F k))[j]? = some v → W.cell? ⟨b, o + k * 8 + j, none⟩ = some v) ∧ ItB (F k) ∧ (F k).key.length ≤ 9223372036854775807 := by
    intro k hk
    obtain ⟨b, o, rfl, hb, hj⟩ := hel k hk
    have hlen : itKs.length = 8 := rfl
    rw [hlen] at hj
    obtain ⟨q0, c0, l0, rfl, k0⟩ := hj 0 _ rfl
    obtain ⟨q1, c1, n1, rfl, w1⟩ := hj 1 _ rfl
    obtain ⟨q2, c2, l2, rfl, _⟩ := hj 2 _ rfl
    obtain ⟨q3, c3, n3, rfl, _⟩ := hj 3 _ rfl
    obtain ⟨q4, c4, n4, rfl, w4⟩ := hj 4 _ rfl
    obtain ⟨q5, c5, n5, rfl, _⟩ := hj 5 _ rfl
    obtain ⟨q6, c6, b6, rfl⟩ := hj 6 _ rfl
    obtain ⟨q7, c7, b7, rfl⟩ := hj 7 _ rfl
    have e : F k = ⟨l0, n1, l2, n3, n4, n5, b6, b7⟩ := by
      rw [hF]
      simp only [itOf, c0, c1, c2, c3, c4, c5, c6, c7, Option.getD_some]
      rfl
    refine ⟨b, o, rfl, hb, ?_, ?_, ?_⟩
    · rw [e]
      intro j v hv
      have hj16 : j < 8 := (List.getElem?_eq_some_iff.1 hv).1
      have : j = 0 ∨ j = 1 ∨ j = 2 ∨ j = 3 ∨ j = 4 ∨ j = 5 ∨ j = 6 ∨ j = 7 := by omega
      rcases this with rfl | rfl | rfl | rfl | rfl | rfl | rfl | rfl
      · rw [c0]; exact hv
      · rw [c1]; exact hv
      · rw [c2]; exact hv
      · rw [c3]; exact hv
      · rw [c4]; exact hv
      · rw [c5]; exact hv
      · rw [c6]; exact hv
      · rw [c7]; exact hv
    · rw [e]
      have u1 := bounds_u32 w1
      have u4 := bounds_u64 w4
      exact ⟨u1.1, by show n1 < _; omega, u4.1, by show n4 < _; omega⟩
    · rw [e]; unfold maxLen at k0; exact k0
  refine ⟨A, n, c, (List.range n).map F, rfl, hnc, hcm, ⟨by simp, fun k x hx => ?_⟩, fun x hx => ?_⟩
  · rw [List.getElem?_map, Option.map_eq_some_iff] at hx
    obtain ⟨k', hk', rfl⟩ := hx
    obtain ⟨hlt, he⟩ := List.getElem?_eq_some_iff.1 hk'
    simp at hlt he
    subst he
    obtain ⟨b, o, h1, h2, h3, _⟩ := key k hlt
    exact ⟨b, o, h1, h2, h3⟩
  · obtain ⟨k, hk, rfl⟩ := List.mem_map.1 hx
    obtain ⟨_, _, _, _, _, h4, h5⟩ := key k (by simpa using hk)
    exact ⟨h4, h5⟩
end Go.Proofs.YtlbbldcfkalhlaaGreatDoor
