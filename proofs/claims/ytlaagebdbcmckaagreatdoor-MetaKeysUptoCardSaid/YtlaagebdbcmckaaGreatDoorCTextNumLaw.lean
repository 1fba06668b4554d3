/- TextNumbers: numbers of a line are what the command has. No program in sight. -/
import Derived.Test.YtlaagebdbcmckaaGreatDoorCTextKeyLaw
import Derived.Test.YtlaagebdbcmckaaGreatDoorCBackLaw
namespace Go.Proofs.YtlaagebdbcmckaaGreatDoor
set_option linter.unusedSimpArgs false
set_option linter.unusedVariables false
open Go.Lib

theorem dec_line (u : Nat) : LineWord (decDigits u) := by
  have hd : ∀ c ∈ decDigits u, dgt c = true := fun c hc => List.all_eq_true.1 (allDgt_dec u) c hc
  have big : ∀ c ∈ decDigits u, 48 ≤ c.toNat := fun c hc => by
    have := hd c hc
    simp only [dgt, Bool.and_eq_true, decide_eq_true_eq] at this
    exact this.1
  refine ⟨isWord_dec u, fun c hc e => ?_, fun e => ?_⟩
  · have := big c hc; rw [e] at this; exact absurd this (by decide)
  · have := big 13 (List.mem_of_getLast? e); exact absurd this (by decide)
/-- a number's text, perhaps below 0 -/
def secText (n : Int) : List UInt8 := if n < 0 then 45 :: decDigits (-n).toNat else decDigits n.toNat
theorem sec_line (n : Int) : LineWord (secText n) := by
  unfold secText
  split
  · have h := dec_line (-n).toNat
    refine ⟨⟨by simp, fun c hc => ?_⟩, fun c hc => ?_, ?_⟩
    · rcases List.mem_cons.1 hc with rfl | hc
      · decide
      · exact h.word.2 c hc
    · rcases List.mem_cons.1 hc with rfl | hc
      · decide
      · exact h.nl c hc
    · have hne := h.word.1
      cases hd : decDigits (-n).toNat with
      | nil => exact absurd hd hne
      | cons c t => rw [List.getLast?_cons_cons, ← hd]; exact h.cr
  · exact dec_line _
theorem sec_val {n : Int} (h0 : -1099511627776 ≤ n) (h1 : n ≤ 1099511627776) : secF (secText n) = (n, true) := by
  have hn : nearB n = true := by simp [nearB]; omega
  unfold secF secText
  by_cases h : n < 0
  · rw [if_pos h, signedV_dash_lo _ (by omega)]
    simp only
    rw [show -(((-n).toNat : Nat) : Int) = n by omega, hn]
  · rw [if_neg h, signedV_dec_lo _ (by omega)]
    simp only
    rw [show ((n.toNat : Nat) : Int) = n by omega, hn]
theorem dec_not (u : Nat) : decDigits u ≠ b_noreply := by
  intro e
  have := allDgt_dec u
  rw [e] at this
  exact absurd this (by decide)
theorem sec_not (n : Int) : secText n ≠ b_noreply := by
  unfold secText
  split
  · intro e; exact absurd (congrArg List.head? e) (by simp [b_noreply])
  · exact dec_not _
/-- so many words, and noreply -/
def withQ (w : List (List UInt8)) (quiet : Bool) : List (List UInt8) := if quiet then w ++ [b_noreply] else w
theorem off_with {w : List (List UInt8)} {x : List UInt8} (quiet : Bool) (h : x ≠ b_noreply) : offF (withQ (w ++ [x]) quiet) = (w ++ [x], quiet) := by
  cases quiet with
  | true => simp [withQ, offF]
  | false => simp [withQ, offF, h]
theorem nr_line : LineWord b_noreply := ⟨⟨by decide, by decide⟩, by decide, by decide⟩
theorem read_incr {key : List UInt8} (hk : keyB key = true) (n : Nat) (hn : n < 18446744073709551616) (quiet : Bool) (r : List UInt8) :
    readR [105, 110, 99, 114] (withQ [key, decDigits n] quiet) r = .got (doR [{ Cd.zero with op := 3, key := key, delta := n, down := false }] quiet) false 0 := by
  have ho := off_with (w := [key]) (x := decDigits n) quiet (dec_not n)
  simp only [List.cons_append, List.nil_append] at ho
  simp [readR, plainR, ho, okKey, hk, parseV_dec n hn]
theorem read_decr {key : List UInt8} (hk : keyB key = true) (n : Nat) (hn : n < 18446744073709551616) (quiet : Bool) (r : List UInt8) :
    readR [100, 101, 99, 114] (withQ [key, decDigits n] quiet) r = .got (doR [{ Cd.zero with op := 3, key := key, delta := n, down := true }] quiet) false 0 := by
  have ho := off_with (w := [key]) (x := decDigits n) quiet (dec_not n)
  simp only [List.cons_append, List.nil_append] at ho
  simp [readR, plainR, ho, okKey, hk, parseV_dec n hn]
theorem read_touch {key : List UInt8} (hk : keyB key = true) {n : Int} (h0 : -1099511627776 ≤ n) (h1 : n ≤ 1099511627776) (quiet : Bool) (r : List UInt8) :
    readR [116, 111, 117, 99, 104] (withQ [key, secText n] quiet) r = .got (doR [{ Cd.zero with op := 4, key := key, exp := n }] quiet) false 0 := by
  have ho := off_with (w := [key]) (x := secText n) quiet (sec_not n)
  simp only [List.cons_append, List.nil_append] at ho
  simp [readR, plainR, ho, okKey, hk, sec_val h0 h1]
theorem read_flush {n : Int} (h0 : -1099511627776 ≤ n) (h1 : n ≤ 1099511627776) (quiet : Bool) (r : List UInt8) :
    readR [102, 108, 117, 115, 104, 95, 97, 108, 108] (withQ [secText n] quiet) r = .got (doR [{ Cd.zero with op := 6, exp := n }] quiet) false 0 := by
  have ho := off_with (w := []) (x := secText n) quiet (sec_not n)
  simp only [List.nil_append] at ho
  simp [readR, plainR, ho, sec_val h0 h1]
theorem read_gat {key : List UInt8} (hk : keyB key = true) {n : Int} (h0 : -1099511627776 ≤ n) (h1 : n ≤ 1099511627776) (r : List UInt8) :
    readR [103, 97, 116] [secText n, key] r = .got (doR [{ Cd.zero with op := 1, key := key, exp := n, hasExp := true }] false) false 0 := by
  simp [readR, getR, List.isPrefixOf, hk, sec_val h0 h1, doR]
end Go.Proofs.YtlaagebdbcmckaaGreatDoor
