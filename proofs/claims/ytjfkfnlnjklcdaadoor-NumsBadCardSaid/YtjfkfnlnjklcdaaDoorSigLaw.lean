/- Plain laws on texts of numbers with a sign. No program in sight. -/
import Derived.Test.YtjfkfnlnjklcdaaDoorNumLawB
import Derived.Lib.ParseIntBCases
import Derived.Lib.Strings
namespace Go.Proofs.YtjfkfnlnjklcdaaDoor
open Go.Lib

def isNeg : List UInt8 → Bool | c :: _ => c == 45 | [] => false
def unsig (l : List UInt8) : List UInt8 := if isNeg l then l.drop 1 else l
/-- the document's Signed: perhaps a dash, and some digits, nineteen at most -/
def signedV (l : List UInt8) : Option Int :=
  if unsig l ≠ [] ∧ (unsig l).length ≤ 19 ∧ allDgt (unsig l) = true ∧ (valOf (unsig l) < 9223372036854775808 ∨ isNeg l = true ∧ valOf (unsig l) = 9223372036854775808)
  then some (if isNeg l then -(valOf (unsig l) : Int) else (valOf (unsig l) : Int)) else none
theorem isNeg_cons {l : List UInt8} (h : isNeg l = true) : ∃ r, l = 45 :: r := by
  cases l with
  | nil => cases h
  | cons c r => exact ⟨r, by unfold isNeg at h; rw [beq_iff_eq.1 h]⟩
theorem trimDash (l : List UInt8) : trimPrefix l [45] = unsig l := by
  unfold trimPrefix hasPrefix unsig isNeg
  cases l with
  | nil => rfl
  | cons c r =>
    by_cases h : c = 45
    · subst h; rfl
    · have h1 : (c == 45) = false := by simpa using h
      have h2 : ([45] : List UInt8).isPrefixOf (c :: r) = false := by
        have : ((45 : UInt8) == c) = false := by simpa using fun e => h e.symm
        simp [List.isPrefixOf, this]
      rw [h2]
      show _ = if (c == 45) = true then _ else _
      rw [h1]; rfl
theorem pow19 : ∀ k, k ≤ 19 → 10 ^ k ≤ 10000000000000000000 := fun k hk => by
  have := Nat.pow_le_pow_right (n := 10) (by omega) hk
  exact this
theorem val19 (l : List UInt8) (h : l.length ≤ 19) (hd : allDgt l = true) : valOf l < 10000000000000000000 := by
  have h1 := valFrom_lt l 0 hd
  have h2 := pow19 l.length h
  unfold valOf; omega
/-- the library's reader, of such a text -/
theorem parseIntB_dgts (l : List UInt8) (h0 : unsig l ≠ []) (h1 : (unsig l).length ≤ 19) (h2 : allDgt (unsig l) = true) :
    (∃ v, signedV l = some v ∧ parseIntB 64 l = .ok v) ∨ (signedV l = none ∧ parseIntB 64 l = .range) := by
  have hv := val19 _ h1 h2
  have hp : parseUintB 64 (unsig l) = .ok (valOf (unsig l)) := by
    rcases parseUintB_dgts (unsig l) h0 h2 with ⟨_, e⟩ | ⟨h, _⟩
    · exact e
    · omega
  by_cases hn : isNeg l = true
  · obtain ⟨r, rfl⟩ := isNeg_cons hn
    have er : unsig (45 :: r) = r := rfl
    rw [er] at h0 h1 h2 hv hp
    rw [parseIntB_minus, hp]
    unfold signedC signedV
    rw [er, if_pos (show isNeg (45 :: r) = true from rfl)]
    by_cases hc : 2 ^ (64 - 1) < valOf r
    · exact .inr ⟨if_neg (fun ⟨_, _, _, h⟩ => by omega), if_pos hc⟩
    · exact .inl ⟨_, if_pos ⟨h0, h1, h2, by rcases Nat.lt_or_ge (valOf r) 9223372036854775808 with h | h; exact .inl h; exact .inr ⟨rfl, by omega⟩⟩, if_neg hc⟩
  · have hn' : isNeg l = false := by simpa using hn
    have er : unsig l = l := by unfold unsig; rw [if_neg hn]
    rw [er] at h0 h1 h2 hv hp
    cases l with
    | nil => exact absurd rfl h0
    | cons c r =>
      have hc : dgt c = true := by simp only [allDgt, List.all_cons, Bool.and_eq_true] at h2; exact h2.1
      simp only [dgt, Bool.and_eq_true, decide_eq_true_eq] at hc
      rw [parseIntB_plain 64 c r (by omega) (by omega), hp]
      unfold signlessC signedV
      rw [er, if_neg hn]
      by_cases hk : 2 ^ (64 - 1) ≤ valOf (c :: r)
      · exact .inr ⟨if_neg (fun ⟨_, _, _, h⟩ => by rcases h with h | ⟨h, _⟩; omega; exact hn h), if_pos hk⟩
      · exact .inl ⟨_, if_pos ⟨h0, h1, h2, .inl (by omega)⟩, if_neg hk⟩
theorem signedV_rng {l : List UInt8} {v : Int} (h : signedV l = some v) : -9223372036854775808 ≤ v ∧ v < 9223372036854775808 := by
  unfold signedV at h
  split at h
  · rename_i hh
    cases h
    obtain ⟨_, _, _, h4⟩ := hh
    rcases h4 with h4 | ⟨hn, h4⟩
    · split <;> omega
    · rw [if_pos hn]; omega
  · cases h
end Go.Proofs.YtjfkfnlnjklcdaaDoor
