/- Cut at a blank, by what stands ahead of it and behind it. No program in sight. -/
import Derived.Test.YtjfkfnlnjklcdaaDoorWordLaw
import Derived.Lib.IndexMore
import Derived.Lib.IndexBytes
namespace Go.Proofs.YtjfkfnlnjklcdaaDoor
open Go.Lib

theorem cut_cases (c : UInt8) (l : List UInt8) : (indexByte l c = -1 ∧ l.takeWhile (· != c) = l ∧ l.dropWhile (· != c) = []) ∨ (∃ k : Nat, indexByte l c = (k : Int) ∧ l.takeWhile (· != c) = l.take k ∧ l.dropWhile (· != c) = l.drop k) := by
  induction l with
  | nil => exact .inl ⟨rfl, rfl, rfl⟩
  | cons b l ih =>
    by_cases hb : b = c
    · subst hb
      exact .inr ⟨0, by simp [indexByte], by simp, by simp⟩
    · have hb2 : (b == c) = false := by simpa using hb
      have hb3 : (b != c) = true := by simpa using hb
      rcases ih with ⟨h1, h2, h3⟩ | ⟨k, h1, h2, h3⟩
      · refine .inl ⟨by simp [indexByte, hb2, h1], ?_, ?_⟩
        · rw [List.takeWhile_cons, if_pos hb3, h2]
        · rw [List.dropWhile_cons, if_pos hb3, h3]
      · refine .inr ⟨k + 1, ?_, ?_, ?_⟩
        · have : ¬ ((k : Int) = -1) := by omega
          simp [indexByte, hb2, h1, this]
        · rw [List.takeWhile_cons, if_pos hb3, h2, List.take_succ_cons]
        · rw [List.dropWhile_cons, if_pos hb3, h3, List.drop_succ_cons]

/-- the two sides of strings.Cut at one byte -/
theorem cut_one (c : UInt8) (l : List UInt8) : (cut l [c]).1 = l.takeWhile (· != c) ∧ (cut l [c]).2.1 = (l.dropWhile (· != c)).drop 1 := by
  unfold cut
  rw [index_one]
  rcases cut_cases c l with ⟨h1, h2, h3⟩ | ⟨k, h1, h2, h3⟩
  · rw [h1, if_neg (by decide), h2, h3]
    exact ⟨rfl, rfl⟩
  · rw [h1, if_pos (by omega), h2, h3]
    refine ⟨by simp, ?_⟩
    simp [List.drop_drop]
end Go.Proofs.YtjfkfnlnjklcdaaDoor
