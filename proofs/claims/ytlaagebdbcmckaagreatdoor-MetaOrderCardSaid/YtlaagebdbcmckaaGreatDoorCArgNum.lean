/- Arguments that are slices of whole numbers, opened. -/
import Derived.Test.YtlaagebdbcmckaaGreatDoorBK
import Derived.Test.YtlaagebdbcmckaaGreatDoorCEorder
namespace Go.Proofs.YtlaagebdbcmckaaGreatDoor
set_option linter.unusedSimpArgs false
set_option linter.unusedVariables false
open Go.ChangeShapes Go.WideShapes Go.ChangeAt Go.RowKit Go.Deep

set_option maxRecDepth 100000 in
theorem open_intl {H : Type} {enc : TypeId × Value → H} {W : World} {base : Nat} {v : Value} {d : DataW H} {ps : List MemPlace} (hv : Value.okWide Tryz.prog W .any base 46 v) (h : DataW.Trod enc Tryz.prog W 0 (fun _ => true) true 46 v d ps) :
    ∃ (A : Option Addr) (n c : Nat), v = .slice A n c ∧ n ≤ maxLen ∧ RawI W A n := by
  obtain ⟨a0, len, cap, rfl⟩ := okWide_slice Tryz.underlying46 hv
  obtain ⟨fuel, hf⟩ := h
  obtain ⟨A, n, c, hcs, hn, hel⟩ := open_nums Tryz.underlying46 Tryz.underlying3 (by kernel_rfl) hf
  have e0 : Value.slice a0 len cap = .slice A n c := by simpa [Value.cells] using hcs
  refine ⟨A, n, c, e0, hn, fun k hk => ?_⟩
  obtain ⟨a, q, ha, hc, _⟩ := hel k hk
  obtain ⟨a', q', ha', hc', _⟩ := hel 0 (by omega)
  rw [ha] at ha'; cases ha'
  obtain ⟨b, o, rfl, hb⟩ := plain_addr hc'
  refine ⟨b, o, q, ha, hb, ?_⟩
  rw [Go.WideShapes.add_plain] at hc
  exact hc
end Go.Proofs.YtlaagebdbcmckaaGreatDoor
