/- Plain laws on a line's words. No program in sight. -/
import Derived.Test.YtjfkfnlnjklcdaaDoorNumLawB
namespace Go.Proofs.YtjfkfnlnjklcdaaDoor
open Go.Lib

/-- a line's words, by the blanks: at most so many rounds -/
def wordsF : Nat → List UInt8 → List (List UInt8)
  | 0, _ => []
  | k + 1, l => if l.dropWhile (· == 32) = [] then [] else (l.dropWhile (· == 32)).takeWhile (· != 32) :: wordsF k (((l.dropWhile (· == 32)).dropWhile (· != 32)).drop 1)

theorem wordsF_succ (k : Nat) (l : List UInt8) : wordsF (k + 1) l = if l.dropWhile (· == 32) = [] then [] else (l.dropWhile (· == 32)).takeWhile (· != 32) :: wordsF k (((l.dropWhile (· == 32)).dropWhile (· != 32)).drop 1) := rfl

/-- a word: it is there, and holds no blank -/
def isWord (l : List UInt8) : Prop := l ≠ [] ∧ ∀ c ∈ l, c ≠ 32

theorem dropSp_word {a : List UInt8} (h : isWord a) (r : List UInt8) : (a ++ r).dropWhile (· == 32) = a ++ r := by
  obtain ⟨h1, h2⟩ := h
  cases a with
  | nil => exact absurd rfl h1
  | cons c a =>
    rw [List.cons_append, List.dropWhile_cons_of_neg]
    have := h2 c (by simp)
    simpa using this
theorem take_word {a : List UInt8} (h : isWord a) (r : List UInt8) : (a ++ 32 :: r).takeWhile (· != 32) = a := by
  obtain ⟨_, h2⟩ := h
  rw [List.takeWhile_append_of_pos (fun c hc => by simpa using h2 c hc)]
  simp
theorem drop_word {a : List UInt8} (h : isWord a) (r : List UInt8) : (a ++ 32 :: r).dropWhile (· != 32) = 32 :: r := by
  obtain ⟨_, h2⟩ := h
  rw [List.dropWhile_append_of_pos (fun c hc => by simpa using h2 c hc)]
  simp
theorem take_all {a : List UInt8} (h : isWord a) : a.takeWhile (· != 32) = a := by
  have := List.takeWhile_append_of_pos (p := (· != 32)) (l₁ := a) (l₂ := []) (fun c hc => by simpa using h.2 c hc)
  simpa using this
theorem drop_all {a : List UInt8} (h : isWord a) : a.dropWhile (· != 32) = [] := by
  have := List.dropWhile_append_of_pos (p := (· != 32)) (l₁ := a) (l₂ := []) (fun c hc => by simpa using h.2 c hc)
  simpa using this
theorem words_cons {a : List UInt8} (h : isWord a) (r : List UInt8) (k : Nat) : wordsF (k + 1) (a ++ 32 :: r) = a :: wordsF k r := by
  rw [wordsF_succ, dropSp_word h, if_neg (by simp), take_word h, drop_word h]
  rfl
theorem words_last {a : List UInt8} (h : isWord a) (k : Nat) : wordsF (k + 2) a = [a] := by
  have hd := dropSp_word h []
  rw [List.append_nil] at hd
  rw [wordsF_succ, hd, if_neg h.1, take_all h, drop_all h, wordsF_succ]
  simp
theorem words_three {a b c : List UInt8} (ha : isWord a) (hb : isWord b) (hc : isWord c) (k : Nat) : wordsF (k + 4) (a ++ 32 :: (b ++ 32 :: c)) = [a, b, c] := by
  rw [words_cons ha, words_cons hb, words_last hc]
theorem isWord_dec (u : Nat) : isWord (decDigits u) := by
  refine ⟨by intro e; have := dec_len u; rw [e] at this; simp at this, ?_⟩
  intro c hc
  have h := allDgt_dec u
  unfold allDgt at h
  rw [List.all_eq_true] at h
  have := h c hc
  simp only [dgt, Bool.and_eq_true, decide_eq_true_eq] at this
  rintro rfl
  have h2 := this.1
  rw [show (32 : UInt8).toNat = 32 from rfl] at h2
  omega
end Go.Proofs.YtjfkfnlnjklcdaaDoor
