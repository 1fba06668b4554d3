/- Lines of words with one blank between; TextKeys. No program in sight. -/
import Derived.Test.YtlaagebdbcmckaaGreatDoorBC
namespace Go.Proofs.YtlaagebdbcmckaaGreatDoor
set_option linter.unusedSimpArgs false
set_option linter.unusedVariables false
open Go.Lib

/-- a word, and words behind it -/
def joinB (name : List UInt8) : List (List UInt8) → List UInt8
  | [] => name
  | k :: ks => name ++ 32 :: joinB k ks
/-- a word of a line: no blank, no line's end, no return at its end -/
structure LineWord (l : List UInt8) : Prop where
  word : isWord l
  nl : ∀ c ∈ l, c ≠ 10
  cr : l.getLast? ≠ some 13
theorem key_word {k : List UInt8} (h : keyB k = true) : LineWord k := by
  simp only [keyB, Bool.and_eq_true, Bool.not_eq_true', List.all_eq_true, decide_eq_true_eq] at h
  obtain ⟨⟨h1, h2⟩, _⟩ := h
  have ne : k ≠ [] := by intro e; rw [e] at h1; simp at h1
  have big : ∀ c ∈ k, 32 < c.toNat := fun c hc => (h2 c hc).1
  refine ⟨⟨ne, fun c hc e => ?_⟩, fun c hc e => ?_, fun e => ?_⟩
  · have := big c hc; rw [e] at this; exact absurd this (by decide)
  · have := big c hc; rw [e] at this; exact absurd this (by decide)
  · have := big 13 (List.mem_of_getLast? e); exact absurd this (by decide)
theorem joinB_len : ∀ (ks : List (List UInt8)) (name : List UInt8), LineWord name → (∀ k ∈ ks, LineWord k) → 2 * ks.length + 1 ≤ (joinB name ks).length
  | [], name, h, _ => by
    have := h.word.1
    cases name with
    | nil => exact absurd rfl this
    | cons c t => simp [joinB]
  | k :: ks, name, h, hk => by
    have := joinB_len ks k (hk k (by simp)) (fun x hx => hk x (by simp [hx]))
    have hn : 1 ≤ name.length := by
      cases name with
      | nil => exact absurd rfl h.word.1
      | cons c t => simp
    simp only [joinB, List.length_append, List.length_cons] at this ⊢
    omega
theorem joinB_words : ∀ (ks : List (List UInt8)) (name : List UInt8) (f : Nat), LineWord name → (∀ k ∈ ks, LineWord k) → ks.length + 2 ≤ f → wordsF f (joinB name ks) = name :: ks
  | [], name, f, h, _, hf => by
    obtain ⟨g, rfl⟩ : ∃ g, f = g + 2 := ⟨f - 2, by simp at hf; omega⟩
    exact words_last h.word g
  | k :: ks, name, f, h, hk, hf => by
    obtain ⟨g, rfl⟩ : ∃ g, f = g + 1 := ⟨f - 1, by omega⟩
    simp only [joinB]
    rw [words_cons h.word, joinB_words ks k g (hk k (by simp)) (fun x hx => hk x (by simp [hx])) (by simp at hf; omega)]
theorem joinB_nl : ∀ (ks : List (List UInt8)) (name : List UInt8), LineWord name → (∀ k ∈ ks, LineWord k) → ∀ c ∈ joinB name ks, c ≠ 10
  | [], name, h, _, c, hc => h.nl c hc
  | k :: ks, name, h, hk, c, hc => by
    simp only [joinB, List.mem_append, List.mem_cons] at hc
    rcases hc with hc | rfl | hc
    · exact h.nl c hc
    · decide
    · exact joinB_nl ks k (hk k (by simp)) (fun x hx => hk x (by simp [hx])) c hc
theorem joinB_ne (name : List UInt8) (h : name ≠ []) : ∀ ks, joinB name ks ≠ []
  | [] => h
  | k :: ks => by simp [joinB]
theorem joinB_cr : ∀ (ks : List (List UInt8)) (name : List UInt8), LineWord name → (∀ k ∈ ks, LineWord k) → (joinB name ks).getLast? ≠ some 13
  | [], name, h, _ => h.cr
  | k :: ks, name, h, hk => by
    have := joinB_cr ks k (hk k (by simp)) (fun x hx => hk x (by simp [hx]))
    have ne := joinB_ne k (hk k (by simp)).word.1 ks
    simp only [joinB]
    cases hj : joinB k ks with
    | nil => exact absurd hj ne
    | cons c t =>
      rw [hj] at this
      have e : (name ++ 32 :: c :: t).getLast? = (c :: t).getLast? := by
        rw [List.getLast?_append, List.getLast?_cons_cons]
        cases hq : (c :: t).getLast? with
        | none => simp at hq
        | some q => rfl
      rw [e]; exact this
/-- a line of such words, ended, with what stands behind -/
theorem lineV_words {name : List UInt8} {ks : List (List UInt8)} (h : LineWord name) (hk : ∀ k ∈ ks, LineWord k) (r : List UInt8) : lineV (joinB name ks ++ 10 :: r) = (joinB name ks, (joinB name ks).length + 1) := by
  have e : (joinB name ks ++ 10 :: r).takeWhile (· != 10) = joinB name ks := by
    rw [List.takeWhile_append_of_pos (fun x hx => by simpa using joinB_nl ks name h hk x hx)]
    simp
  unfold lineV
  simp only [e]
  rw [if_pos (by simp), if_neg (joinB_cr ks name h hk)]
theorem lineV_words' {name : List UInt8} {ks : List (List UInt8)} (h : LineWord name) (hk : ∀ k ∈ ks, LineWord k) (r : List UInt8) : lineV (joinB name ks ++ 13 :: 10 :: r) = (joinB name ks, (joinB name ks).length + 2) := by
  have e : (joinB name ks ++ 13 :: 10 :: r).takeWhile (· != 10) = joinB name ks ++ [13] := by
    rw [List.takeWhile_append_of_pos (fun x hx => by simpa using joinB_nl ks name h hk x hx)]
    simp
  unfold lineV
  simp only [e]
  rw [if_pos (by simp), if_pos (by simp)]
  simp
/-- a line of such words is read -/
theorem parse_words {name : List UInt8} {ks : List (List UInt8)} (h : LineWord name) (hk : ∀ k ∈ ks, LineWord k) (hl : (joinB name ks).length + 1 ≤ 2048) (r : List UInt8) : tParse (joinB name ks ++ 10 :: r) = endR ((joinB name ks).length + 1) (readR name ks r) := by
  have et : (joinB name ks ++ 10 :: r).take 2048 = joinB name ks ++ 10 :: r.take (2047 - (joinB name ks).length) := by
    rw [List.take_append, List.take_of_length_le (by omega)]
    obtain ⟨d, hd⟩ : ∃ d, 2048 - (joinB name ks).length = d + 1 := ⟨2047 - (joinB name ks).length, by omega⟩
    rw [hd, List.take_succ_cons, show 2047 - (joinB name ks).length = d by omega]
  unfold tParse
  simp only [et, lineV_words h hk]
  rw [if_neg (Nat.succ_ne_zero _), joinB_words ks name _ h hk (by have := joinB_len ks name h hk; omega)]
  have ed : (joinB name ks ++ 10 :: r).drop ((joinB name ks).length + 1) = r := by
    rw [List.drop_append]; simp
  rw [ed]; rfl
theorem parse_words' {name : List UInt8} {ks : List (List UInt8)} (h : LineWord name) (hk : ∀ k ∈ ks, LineWord k) (hl : (joinB name ks).length + 2 ≤ 2048) (r : List UInt8) : tParse (joinB name ks ++ 13 :: 10 :: r) = endR ((joinB name ks).length + 2) (readR name ks r) := by
  have et : (joinB name ks ++ 13 :: 10 :: r).take 2048 = joinB name ks ++ 13 :: 10 :: r.take (2046 - (joinB name ks).length) := by
    rw [List.take_append, List.take_of_length_le (by omega)]
    obtain ⟨d, hd⟩ : ∃ d, 2048 - (joinB name ks).length = d + 2 := ⟨2046 - (joinB name ks).length, by omega⟩
    rw [hd, List.take_succ_cons, List.take_succ_cons, show 2046 - (joinB name ks).length = d by omega]
  unfold tParse
  simp only [et, lineV_words' h hk]
  rw [if_neg (Nat.succ_ne_zero _), joinB_words ks name _ h hk (by have := joinB_len ks name h hk; omega)]
  have ed : (joinB name ks ++ 13 :: 10 :: r).drop ((joinB name ks).length + 2) = r := by
    rw [List.drop_append]; simp
  rw [ed]; rfl
/-! ### TextKeys -/
def getN (tokens : Bool) : List UInt8 := if tokens then [103, 101, 116, 115] else [103, 101, 116]
theorem getN_word (tokens : Bool) : LineWord (getN tokens) := by
  cases tokens <;> exact ⟨⟨by decide, by decide⟩, by decide, by decide⟩
def getKC (k : List UInt8) : Cd := ⟨1, 0, k, [], 0, 0, false, 0, false, 0, 0, false, false, 0, -1, false⟩
theorem read_get (tokens : Bool) (ks : List (List UInt8)) (r : List UInt8) : readR (getN tokens) ks r = if ks = [] then .fault f_unknown else if ks.all keyB then .got { doR (ks.map getKC) false with tokens := tokens } false 0 else .fault f_format := by
  unfold readR
  rw [if_pos (by cases tokens <;> simp [getN])]
  have e : (getN tokens).getLast? = if tokens then some 115 else some 116 := by cases tokens <;> rfl
  unfold getR
  cases tokens <;> simp [getN, List.isPrefixOf, doR, getKC, Cd.zero] <;> rfl
end Go.Proofs.YtlaagebdbcmckaaGreatDoor
