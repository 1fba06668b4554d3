/- A report's line has three words: STAT, its name, its number. No program in sight. -/
import Derived.Test.YtjfkfnlnjklcdaaDoorLines
import Derived.Test.YtjfkfnlnjklcdaaDoorWordLaw
namespace Go.Proofs.YtjfkfnlnjklcdaaDoor

theorem word_of_all {l : List UInt8} (h : (!l.isEmpty && l.all (· != 32)) = true) : isWord l := by
  rw [Bool.and_eq_true] at h
  refine ⟨by rintro rfl; simp at h, fun c hc => ?_⟩
  have := List.all_eq_true.1 h.2 c hc
  simpa using this
theorem word_stat : isWord [83, 84, 65, 84] := word_of_all (by decide)
theorem word_name : ∀ k, k < 18 → isWord (nameL k) := by
  intro k hk
  apply word_of_all
  revert k
  decide
theorem line_words (k : Nat) (hk : k < 18) (n : Int) (f : Nat) : wordsF (f + 4) (lineL (nameL k) n) = [[83, 84, 65, 84], nameL k, decI n] := by
  rw [show lineL (nameL k) n = [83, 84, 65, 84] ++ 32 :: (nameL k ++ 32 :: decI n) by unfold lineL; simp]
  exact words_three word_stat (word_name k hk) (isWord_dec n.toNat) f
end Go.Proofs.YtjfkfnlnjklcdaaDoor
