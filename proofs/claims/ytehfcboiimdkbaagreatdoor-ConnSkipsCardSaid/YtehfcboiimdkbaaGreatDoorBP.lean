/- What meta.Reply computes. No program in sight. Printed by gen_metar.py. -/
import Derived.Test.YtehfcboiimdkbaaGreatDoorBC
import Derived.Lib.Join
namespace Go.Proofs.YtehfcboiimdkbaaGreatDoor
set_option linter.unusedSimpArgs false
set_option linter.unusedVariables false
open Go.Lib
end Go.Proofs.YtehfcboiimdkbaaGreatDoor
/- Plain laws on texts: noughts ahead, a dash ahead, a byte put in. No program in sight. -/
namespace Go.Proofs.YtehfcboiimdkbaaGreatDoor
set_option linter.unusedSimpArgs false
set_option linter.unusedVariables false
open Go.Lib
end Go.Proofs.YtehfcboiimdkbaaGreatDoor
/- Lines of words with one blank between; TextKeys. No program in sight. -/
namespace Go.Proofs.YtehfcboiimdkbaaGreatDoor
set_option linter.unusedSimpArgs false
set_option linter.unusedVariables false
open Go.Lib
def joinB (name : List UInt8) : List (List UInt8) → List UInt8
  | [] => name
  | k :: ks => name ++ 32 :: joinB k ks
structure LineWord (l : List UInt8) : Prop where
  word : isWord l
  nl : ∀ c ∈ l, c ≠ 10
  cr : l.getLast? ≠ some 13
theorem joinB_len : ∀ (ks : List (List UInt8)) (name : List UInt8), LineWord name → (∀ k ∈ ks, LineWord k) → 2 * ks.length + 1 ≤ (joinB name ks).length
  | [], name, h, _ => by
    have := h.word.1
    cases name with
    | nil => exact absurd rfl this
    | cons c t => simp [joinB]
  | k :: ks, name, h, hk => by
    have := joinB_len ks k (hk k (by simp)) (fun x hx => hk x (by simp [hx]))
    have hn : 1 ≤ name.length := by
      cases name with
      | nil => exact absurd rfl h.word.1
      | cons c t => simp
    simp only [joinB, List.length_append, List.length_cons] at this ⊢
    omega
theorem joinB_words : ∀ (ks : List (List UInt8)) (name : List UInt8) (f : Nat), LineWord name → (∀ k ∈ ks, LineWord k) → ks.length + 2 ≤ f → wordsF f (joinB name ks) = name :: ks
  | [], name, f, h, _, hf => by
    obtain ⟨g, rfl⟩ : ∃ g, f = g + 2 := ⟨f - 2, by simp at hf; omega⟩
    exact words_last h.word g
  | k :: ks, name, f, h, hk, hf => by
    obtain ⟨g, rfl⟩ : ∃ g, f = g + 1 := ⟨f - 1, by omega⟩
    simp only [joinB]
    rw [words_cons h.word, joinB_words ks k g (hk k (by simp)) (fun x hx => hk x (by simp [hx])) (by simp at hf; omega)]
theorem joinB_nl : ∀ (ks : List (List UInt8)) (name : List UInt8), LineWord name → (∀ k ∈ ks, LineWord k) → ∀ c ∈ joinB name ks, c ≠ 10
  | [], name, h, _, c, hc => h.nl c hc
  | k :: ks, name, h, hk, c, hc => by
    simp only [joinB, List.mem_append, List.mem_cons] at hc
    rcases hc with hc | rfl | hc
    · exact h.nl c hc
    · decide
    · exact joinB_nl ks k (hk k (by simp)) (fun x hx => hk x (by simp [hx])) c hc
theorem lineV_words' {name : List UInt8} {ks : List (List UInt8)} (h : LineWord name) (hk : ∀ k ∈ ks, LineWord k) (r : List UInt8) : lineV (joinB name ks ++ 13 :: 10 :: r) = (joinB name ks, (joinB name ks).length + 2) := by
  have e : (joinB name ks ++ 13 :: 10 :: r).takeWhile (· != 10) = joinB name ks ++ [13] := by
    rw [List.takeWhile_append_of_pos (fun x hx => by simpa using joinB_nl ks name h hk x hx)]
    simp
  unfold lineV
  simp only [e]
  rw [if_pos (by simp), if_pos (by simp)]
  simp
theorem parse_words' {name : List UInt8} {ks : List (List UInt8)} (h : LineWord name) (hk : ∀ k ∈ ks, LineWord k) (hl : (joinB name ks).length + 2 ≤ 2048) (r : List UInt8) : tParse (joinB name ks ++ 13 :: 10 :: r) = endR ((joinB name ks).length + 2) (readR name ks r) := by
  have et : (joinB name ks ++ 13 :: 10 :: r).take 2048 = joinB name ks ++ 13 :: 10 :: r.take (2046 - (joinB name ks).length) := by
    rw [List.take_append, List.take_of_length_le (by omega)]
    obtain ⟨d, hd⟩ : ∃ d, 2048 - (joinB name ks).length = d + 2 := ⟨2046 - (joinB name ks).length, by omega⟩
    rw [hd, List.take_succ_cons, List.take_succ_cons, show 2046 - (joinB name ks).length = d by omega]
  unfold tParse
  simp only [et, lineV_words' h hk]
  rw [if_neg (Nat.succ_ne_zero _), joinB_words ks name _ h hk (by have := joinB_len ks name h hk; omega)]
  have ed : (joinB name ks ++ 13 :: 10 :: r).drop ((joinB name ks).length + 2) = r := by
    rw [List.drop_append]; simp
  rw [ed]; rfl
end Go.Proofs.YtehfcboiimdkbaaGreatDoor
/- TextNumbers: numbers of a line are what the command has. No program in sight. -/
namespace Go.Proofs.YtehfcboiimdkbaaGreatDoor
set_option linter.unusedSimpArgs false
set_option linter.unusedVariables false
open Go.Lib
theorem dec_line (u : Nat) : LineWord (decDigits u) := by
  have hd : ∀ c ∈ decDigits u, dgt c = true := fun c hc => List.all_eq_true.1 (allDgt_dec u) c hc
  have big : ∀ c ∈ decDigits u, 48 ≤ c.toNat := fun c hc => by
    have := hd c hc
    simp only [dgt, Bool.and_eq_true, decide_eq_true_eq] at this
    exact this.1
  refine ⟨isWord_dec u, fun c hc e => ?_, fun e => ?_⟩
  · have := big c hc; rw [e] at this; exact absurd this (by decide)
  · have := big 13 (List.mem_of_getLast? e); exact absurd this (by decide)
end Go.Proofs.YtehfcboiimdkbaaGreatDoor
/- The lines of TextNumbers, read. No program in sight. -/
namespace Go.Proofs.YtehfcboiimdkbaaGreatDoor
set_option linter.unusedSimpArgs false
set_option linter.unusedVariables false
open Go.Lib
section
variable {key : List UInt8} (hk : keyB key = true)
include hk
end
end Go.Proofs.YtehfcboiimdkbaaGreatDoor
/- The lines of MetaNumbers, read. No program in sight. -/
namespace Go.Proofs.YtehfcboiimdkbaaGreatDoor
set_option linter.unusedSimpArgs false
set_option linter.unusedVariables false
open Go.Lib
theorem m_words' {name : List UInt8} {ks : List (List UInt8)} (h : LineWord name) (hk : ∀ k ∈ ks, LineWord k) (hl : (joinB name ks).length + 2 ≤ 2048) (r : List UInt8) : mParse (joinB name ks ++ 13 :: 10 :: r) = lineM ((joinB name ks).length + 2) r (name :: ks) := by
  have et : (joinB name ks ++ 13 :: 10 :: r).take 2048 = joinB name ks ++ 13 :: 10 :: r.take (2046 - (joinB name ks).length) := by
    rw [List.take_append, List.take_of_length_le (by omega)]
    obtain ⟨d, hd⟩ : ∃ d, 2048 - (joinB name ks).length = d + 2 := ⟨2046 - (joinB name ks).length, by omega⟩
    rw [hd, List.take_succ_cons, List.take_succ_cons, show 2046 - (joinB name ks).length = d by omega]
  unfold mParse
  simp only [et, lineV_words' h hk]
  rw [if_neg (Nat.succ_ne_zero _), joinB_words ks name _ h hk (by have := joinB_len ks name h hk; omega)]
  have ed : (joinB name ks ++ 13 :: 10 :: r).drop ((joinB name ks).length + 2) = r := by
    rw [List.drop_append]; simp
  rw [ed]
theorem numF_dec {u : Nat} (h : u < 18446744073709551616) : numF (decDigits u) = ((u : Int), true) := by
  unfold numF; rw [parseV_dec u h]; rfl
theorem lineM_read {n : Nat} {behind name : List UInt8} {w : List (List UInt8)} {r : Mq} {u : Int} (hk : (kindM name).2 ≠ []) (h : readM name w behind = (r, u, false)) : lineM n behind (name :: w) = (r, n + u) := by
  simp only [lineM, if_pos hk, h, Bool.false_eq_true, if_false]
section
variable {cas delta first fl : Nat} {sec more : Int} (hc : cas < 18446744073709551616) (hd : delta < 18446744073709551616) (hf : first < 18446744073709551616) (hl : fl < 4294967296) (h0 : -1099511627776 ≤ sec) (h1 : sec ≤ 1099511627776) (m0 : -1099511627776 ≤ more) (m1 : more ≤ 1099511627776)
theorem lw_lit {l : List UInt8} (h : l ≠ []) (h1 : ∀ c ∈ l, c ≠ 32 ∧ c ≠ 10 ∧ c ≠ 13) : LineWord l :=
  ⟨⟨h, fun c hc => (h1 c hc).1⟩, fun c hc => (h1 c hc).2.1, fun e => (h1 13 (List.mem_of_getLast? e)).2.2 rfl⟩
end
end Go.Proofs.YtehfcboiimdkbaaGreatDoor
/- A store of too many bytes, or with a bad number, is bad, and its data are to be passed over. No program in sight. -/
namespace Go.Proofs.YtehfcboiimdkbaaGreatDoor
set_option linter.unusedSimpArgs false
set_option linter.unusedVariables false
open Go.RowKit Go.Lib
def skT (n : Nat) : List (List UInt8) := [[107], [120], [48], decDigits n]
def skM (n : Nat) : List (List UInt8) := [[107], decDigits n]
def w_set : List UInt8 := [115, 101, 116]
theorem dec_no (n : Nat) : decDigits n ≠ b_noreply := fun e => by
  have h := allDgt_dec n
  rw [e] at h
  revert h; decide
theorem skT_line (n : Nat) : ∀ k ∈ skT n, LineWord k := by
  intro k hk
  simp only [skT, List.mem_cons, List.not_mem_nil, or_false] at hk
  rcases hk with rfl | rfl | rfl | rfl
  · exact lw_lit (by simp) (by decide)
  · exact lw_lit (by simp) (by decide)
  · exact lw_lit (by simp) (by decide)
  · exact dec_line n
theorem skM_line (n : Nat) : ∀ k ∈ skM n, LineWord k := by
  intro k hk
  simp only [skM, List.mem_cons, List.not_mem_nil, or_false] at hk
  rcases hk with rfl | rfl
  · exact lw_lit (by simp) (by decide)
  · exact dec_line n
theorem set_line : LineWord w_set := lw_lit (by simp [w_set]) (by decide)
theorem ms_line : LineWord m_ms := lw_lit (by simp [m_ms]) (by decide)
theorem skT_eq (n : Nat) : joinB w_set (skT n) ++ [13, 10] = [115, 101, 116, 32, 107, 32, 120, 32, 48, 32] ++ decDigits n ++ [13, 10] := by
  simp [joinB, skT, w_set]
theorem skM_eq (n : Nat) : joinB m_ms (skM n) ++ [13, 10] = [109, 115, 32, 107, 32] ++ decDigits n ++ [13, 10] := by
  simp [joinB, skM, m_ms]
theorem first_join {name : List UInt8} {k : List UInt8} {ks : List (List UInt8)} (hn : LineWord name) (hk : ∀ x ∈ k :: ks, LineWord x) (hname : ∀ c ∈ name, c ≠ 32) (hne : name ≠ []) (hl : (joinB name (k :: ks)).length + 2 ≤ 2048) : firstW (joinB name (k :: ks) ++ [13, 10]) = name := by
  unfold firstW
  rw [List.take_of_length_le (by simp only [List.length_append, List.length_cons, List.length_nil]; omega), lineV_words' hn hk []]
  simp only [joinB]
  obtain ⟨c, t, rfl⟩ : ∃ c t, name = c :: t := by cases name with | nil => exact absurd rfl hne | cons c t => exact ⟨c, t, rfl⟩
  have hc : (c == (32 : UInt8)) = false := by simpa using hname c (by simp)
  rw [List.cons_append, List.dropWhile_cons, hc]
  simp only [Bool.false_eq_true, if_false]
  rw [← List.cons_append, List.takeWhile_append_of_pos (by intro x hx; simpa using hname x hx)]
  simp
theorem skip_t {n : Nat} (hn : n ≤ 1000000) (hl : (joinB w_set (skT n)).length + 2 ≤ 2048) : cParse (joinB w_set (skT n) ++ [13, 10]) = (gqT { badR f_format with skip := ((n + 2 : Nat) : Int) }, (((joinB w_set (skT n)).length + 2 : Nat) : Int)) := by
  have h1 := parse_words' set_line (skT_line n) hl []
  have hf := first_join (name := w_set) (k := [107]) (ks := [[120], [48], decDigits n]) set_line (skT_line n) (by decide) (by simp [w_set]) hl
  have hoff : offF (skT n) = (skT n, false) := by
    unfold offF skT
    simp only [List.getLast?_cons_cons, List.getLast?_singleton]
    rw [if_neg (dec_no n)]
  have hr : readR w_set (skT n) [] = .got { badR f_format with skip := ((n + 2 : Nat) : Int) } false 0 := by
    have e1 : readR w_set (skT n) [] = storeR w_set (skT n) [] := rfl
    rw [e1]
    unfold storeR
    rw [hoff]
    have hp : parseV (decDigits n) = some n := parseV_dec n (by omega)
    have e3 : (skT n).getD 3 [] = decDigits n := rfl
    have e4 : (skT n).getD 1 [] = [120] := rfl
    have e5 : parseV [120] = none := by decide
    have hc : (w_set == ([99, 97, 115] : List UInt8)) = false := rfl
    simp only [e3, e4, e5, hp, hc, cond_false]
    have hlen : (skT n).length = 4 := rfl
    rw [hlen, if_neg (by simp), if_neg (by omega)]
    simp
  unfold cParse
  have hf2 : firstW (joinB w_set (skT n) ++ [13, 10]) = w_set := hf
  rw [hf2, if_neg (by decide)]
  have h2 : tParse (joinB w_set (skT n) ++ [13, 10]) = _ := h1
  rw [h2, hr]
  show (gqT _, _ + (0 : Int)) = _
  rw [Int.add_zero]
  rfl
theorem skip_m {n : Nat} (h0 : 65536 < n) (hn : n ≤ 1000000) (hl : (joinB m_ms (skM n)).length + 2 ≤ 2048) : cParse (joinB m_ms (skM n) ++ [13, 10]) = (gqM (badM f_large ((n + 2 : Nat) : Int)), (((joinB m_ms (skM n)).length + 2 : Nat) : Int)) := by
  have h1 := m_words' ms_line (skM_line n) hl []
  have hf := first_join (name := m_ms) (k := [107]) (ks := [decDigits n]) ms_line (skM_line n) (by decide) (by simp [m_ms]) hl
  have hnum : numF (decDigits n) = ((n : Int), true) := numF_dec (by omega)
  have hw : wrongM m_ms [107] [] (n + 2) = f_large := by
    unfold wrongM
    have e1 : (flagsM m_ms []).2.1 = [] := by decide
    have e2 : okM (keyM m_ms [107] []) = true := by decide
    rw [e1, e2, if_neg (by simp), if_neg (by simp), if_pos (by omega)]
  have hr : readM m_ms (skM n) [] = (badM f_large ((n + 2 : Nat) : Int), 0, false) := by
    unfold skM readM
    simp only [if_true, hnum]
    have e : ((n : Int)).toNat + 2 = n + 2 := by omega
    have hd : decide ((n : Int) ≤ 1073741824) = true := decide_eq_true (by omega)
    rw [hd]
    simp only [Bool.and_self, if_true, e]
    unfold restM
    rw [hw, if_pos (by decide)]
  unfold cParse
  have hf2 : firstW (joinB m_ms (skM n) ++ [13, 10]) = m_ms := hf
  rw [hf2, if_pos (by decide)]
  have h2 : mParse (joinB m_ms (skM n) ++ [13, 10]) = _ := h1
  rw [h2, lineM_read (by decide) hr]
  show (gqM _, _ + (0 : Int)) = _
  rw [Int.add_zero]
end Go.Proofs.YtehfcboiimdkbaaGreatDoor
