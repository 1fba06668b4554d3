/- Arguments that are slices of commands, opened. -/
import Derived.Test.YtfmpdbngpknmaaaDoorCArgRow
import Derived.Test.YtfmpdbngpknmaaaDoorBJ
namespace Go.Proofs.YtfmpdbngpknmaaaDoor
set_option linter.unusedSimpArgs false
set_option linter.unusedVariables false
open Go.ChangeShapes Go.WideShapes Go.ChangeAt Go.RowKit Go.Deep

def cmdKs : List KD := [.i .i64, .i .i64, .s, .s, .i .u32, .i .i64, .b, .i .u64, .b, .i .u64, .i .u64, .b, .b, .i .i64, .i .i64, .b]
def cdOf (u : Nat → Value) : Cd := ⟨intV (u 0), intV (u 1), strV (u 2), strV (u 3), intV (u 4), intV (u 5), truV (u 6), intV (u 7), truV (u 8), intV (u 9), intV (u 10), truV (u 11), truV (u 12), intV (u 13), intV (u 14), truV (u 15)⟩
/-- a slice of these commands -/
def CmdsAt (W : World) (A : Option Addr) (n : Nat) (cs : Nat → Cd) : Prop := ∀ k, k < n → ∃ b o, A = some ⟨b, o, none⟩ ∧ b < W.heap.size ∧ (∀ (j : Nat) v, (cdA (cs k)).toList[j]? = some v → W.cell? ⟨b, o + k * 16 + j, none⟩ = some v) ∧ CdOk (cs k)
set_option maxRecDepth 100000 in
theorem open_cmdl {H : Type} {enc : TypeId × Value → H} {W : World} {base : Nat} {v : Value} {d : DataW H} {ps : List MemPlace} (hv : Value.okWide Tryd.prog W .any base 42 v) (h : DataW.Trod enc Tryd.prog W 0 (fun _ => true) true 42 v d ps) :
    ∃ (A : Option Addr) (n c : Nat) (cs : Nat → Cd), v = .slice A n c ∧ n ≤ maxLen ∧ CmdsAt W A n cs := by
  obtain ⟨A, n, c, rfl, hn, hel⟩ := open_rows (ks := cmdKs) Tryd.underlying42 (by kernel_rfl) (by decide) hv h
  refine ⟨A, n, c, fun k => cdOf fun j => match A with | some a => (W.cell? ⟨a.block, a.off + k * 16 + j, none⟩).getD undef | none => undef, rfl, hn, fun k hk => ?_⟩
  obtain ⟨b, o, rfl, hb, hj⟩ := hel k hk
  have hlen : cmdKs.length = 16 := rfl
  rw [hlen] at hj
  obtain ⟨q0, c0, n0, rfl, _⟩ := hj 0 _ rfl
  obtain ⟨q1, c1, n1, rfl, _⟩ := hj 1 _ rfl
  obtain ⟨q2, c2, l2, rfl, k2⟩ := hj 2 _ rfl
  obtain ⟨q3, c3, l3, rfl, k3⟩ := hj 3 _ rfl
  obtain ⟨q4, c4, n4, rfl, _⟩ := hj 4 _ rfl
  obtain ⟨q5, c5, n5, rfl, _⟩ := hj 5 _ rfl
  obtain ⟨q6, c6, b6, rfl⟩ := hj 6 _ rfl
  obtain ⟨q7, c7, n7, rfl, _⟩ := hj 7 _ rfl
  obtain ⟨q8, c8, b8, rfl⟩ := hj 8 _ rfl
  obtain ⟨q9, c9, n9, rfl, w9⟩ := hj 9 _ rfl
  obtain ⟨q10, c10, n10, rfl, w10⟩ := hj 10 _ rfl
  obtain ⟨q11, c11, b11, rfl⟩ := hj 11 _ rfl
  obtain ⟨q12, c12, b12, rfl⟩ := hj 12 _ rfl
  obtain ⟨q13, c13, n13, rfl, _⟩ := hj 13 _ rfl
  obtain ⟨q14, c14, n14, rfl, _⟩ := hj 14 _ rfl
  obtain ⟨q15, c15, b15, rfl⟩ := hj 15 _ rfl
  have e : (cdOf fun j => (W.cell? ⟨b, o + k * 16 + j, none⟩).getD undef) = ⟨n0, n1, l2, l3, n4, n5, b6, n7, b8, n9, n10, b11, b12, n13, n14, b15⟩ := by
    simp only [cdOf, c0, c1, c2, c3, c4, c5, c6, c7, c8, c9, c10, c11, c12, c13, c14, c15, Option.getD_some]
    rfl
  refine ⟨b, o, rfl, hb, ?_, ?_⟩
  · show ∀ (j : Nat) v, (cdA (cdOf fun j => (W.cell? ⟨b, o + k * 16 + j, none⟩).getD undef)).toList[j]? = some v → _
    rw [e]
    intro j v hv
    have hj16 : j < 16 := (List.getElem?_eq_some_iff.1 hv).1
    have : j = 0 ∨ j = 1 ∨ j = 2 ∨ j = 3 ∨ j = 4 ∨ j = 5 ∨ j = 6 ∨ j = 7 ∨ j = 8 ∨ j = 9 ∨ j = 10 ∨ j = 11 ∨ j = 12 ∨ j = 13 ∨ j = 14 ∨ j = 15 := by omega
    rcases this with rfl | rfl | rfl | rfl | rfl | rfl | rfl | rfl | rfl | rfl | rfl | rfl | rfl | rfl | rfl | rfl
    · rw [c0]; exact hv
    · rw [c1]; exact hv
    · rw [c2]; exact hv
    · rw [c3]; exact hv
    · rw [c4]; exact hv
    · rw [c5]; exact hv
    · rw [c6]; exact hv
    · rw [c7]; exact hv
    · rw [c8]; exact hv
    · rw [c9]; exact hv
    · rw [c10]; exact hv
    · rw [c11]; exact hv
    · rw [c12]; exact hv
    · rw [c13]; exact hv
    · rw [c14]; exact hv
    · rw [c15]; exact hv
  · show CdOk (cdOf fun j => (W.cell? ⟨b, o + k * 16 + j, none⟩).getD undef)
    rw [e]
    have u9 := bounds_u64 w9
    have u10 := bounds_u64 w10
    exact ⟨k2, k3, u9.1, by show n9 < _; omega, u10.1, by show n10 < _; omega⟩
end Go.Proofs.YtfmpdbngpknmaaaDoor
