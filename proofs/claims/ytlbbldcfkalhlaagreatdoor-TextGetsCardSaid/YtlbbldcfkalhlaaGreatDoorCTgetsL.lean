/- TextGets: what is asked for, answered and wanted. No program in sight. -/
import Derived.Test.YtlbbldcfkalhlaaGreatDoorCTvals
namespace Go.Proofs.YtlbbldcfkalhlaaGreatDoor
set_option linter.unusedSimpArgs false
set_option linter.unusedVariables false
open Go.Lib

def gtC (x : It) : Cd := { Cd.zero with op := 1, key := x.key }
def hitA (x : It) : An := ⟨1, x, 0, false, false, false⟩
def missA : An := ⟨5, It.zero, 0, false, false, false⟩
section
variable (M : Nat → Bool) (xs : List It)
def ansF (j : Nat) : List An := (List.range j).map fun k => if M k then missA else hitA (xs.getD k It.zero)
def wantF (j : Nat) : List It := ((List.range j).filter fun k => !M k).map fun k => xs.getD k It.zero
theorem ansF_len (j : Nat) : (ansF M xs j).length = j := by simp [ansF]
theorem ansF_succ (j : Nat) : ansF M xs (j + 1) = ansF M xs j ++ [if M j then missA else hitA (xs.getD j It.zero)] := by
  simp [ansF, List.range_succ]
theorem wantF_yes {j : Nat} (h : M j = false) : wantF M xs (j + 1) = wantF M xs j ++ [xs.getD j It.zero] := by
  simp [wantF, List.range_succ, List.filter_append, h]
theorem wantF_no {j : Nat} (h : M j = true) : wantF M xs (j + 1) = wantF M xs j := by
  simp [wantF, List.range_succ, List.filter_append, h]
theorem wantF_le (j : Nat) : (wantF M xs j).length ≤ j := by
  unfold wantF
  rw [List.length_map]
  exact Nat.le_trans (List.length_filter_le _ _) (by simp)
theorem tell_want (tok : Bool) : ∀ j, tellF tok (ansF M xs j) = (wantF M xs j).flatMap (itTold tok)
  | 0 => rfl
  | j + 1 => by
    rw [ansF_succ, tellF_app, tell_want tok j]
    cases h : M j with
    | true => rw [wantF_no M xs h]; simp [tellF, missA]
    | false => rw [wantF_yes M xs h]; simp [tellF, hitA]
theorem wantF_mem {j : Nat} {x : It} (h : x ∈ wantF M xs j) : ∃ k, k < j ∧ x = xs.getD k It.zero := by
  unfold wantF at h
  obtain ⟨k, hk, rfl⟩ := List.mem_map.1 h
  exact ⟨k, by simpa using (List.mem_filter.1 hk).1, rfl⟩
theorem ansF_mem {j : Nat} {a : An} (h : a ∈ ansF M xs j) : a = missA ∨ ∃ k, k < j ∧ a = hitA (xs.getD k It.zero) := by
  unfold ansF at h
  obtain ⟨k, hk, rfl⟩ := List.mem_map.1 h
  cases hm : M k with
  | true => exact .inl (by simp)
  | false => exact .inr ⟨k, by simpa using hk, by simp⟩
end
/-- an item's numbers are such -/
def ItB (x : It) : Prop := 0 ≤ x.flags ∧ x.flags < 4294967296 ∧ 0 ≤ x.cas ∧ x.cas < 18446744073709551616
/-- an item that may be told of -/
def okI (x : It) : Prop := keyB x.key = true ∧ x.val.length ≤ 65536
theorem miss_ok : AnOk missA := ⟨by simp [missA, It.zero], by simp [missA, It.zero], by simp [missA, It.zero], by simp [missA, It.zero], by simp [missA, It.zero], by simp [missA, It.zero]⟩
theorem hit_ok {x : It} (h : okI x) (hb : ItB x) : AnOk (hitA x) := by
  have := key_le h.1
  exact ⟨by simp only [hitA]; omega, by simp only [hitA]; have := h.2; omega, hb.1, hb.2.1, hb.2.2.1, hb.2.2.2⟩
/-- what is left of the reply, of the i-th wanted on -/
def restF (tok : Bool) (ws : List It) (i : Nat) : List UInt8 := (ws.drop i).flatMap (itTold tok) ++ b_end
theorem restF_step {tok : Bool} {ws : List It} {i : Nat} {x : It} (hx : ws[i]? = some x) : restF tok ws i = itTold tok x ++ restF tok ws (i + 1) := by
  obtain ⟨hi, e⟩ := List.getElem?_eq_some_iff.1 hx
  unfold restF
  rw [List.drop_eq_getElem_cons hi, e]
  simp
theorem restF_end {tok : Bool} {ws : List It} {i : Nat} (h : ws.length ≤ i) : restF tok ws i = b_end := by
  unfold restF
  rw [List.drop_eq_nil_of_le h]; rfl
end Go.Proofs.YtlbbldcfkalhlaaGreatDoor
