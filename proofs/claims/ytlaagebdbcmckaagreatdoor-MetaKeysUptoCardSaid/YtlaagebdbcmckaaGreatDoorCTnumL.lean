/- The lines of TextNumbers, read. No program in sight. -/
import Derived.Test.YtlaagebdbcmckaaGreatDoorCTextNumLaw
namespace Go.Proofs.YtlaagebdbcmckaaGreatDoor
set_option linter.unusedSimpArgs false
set_option linter.unusedVariables false
open Go.Lib

def enQ (quiet : Bool) : List UInt8 := if quiet then [32, 110, 111, 114, 101, 112, 108, 121, 13, 10] else [13, 10]
theorem lw1 {x : List UInt8} (h : LineWord x) : ∀ k ∈ [x], LineWord k := fun k hm => by rw [List.mem_singleton.1 hm]; exact h
theorem lw2 {x y : List UInt8} (h : LineWord x) (h' : LineWord y) : ∀ k ∈ [x, y], LineWord k := fun k hm => by
  rcases List.mem_cons.1 hm with rfl | hm
  · exact h
  · exact lw1 h' k hm
theorem secText_len {n : Int} (h0 : -1099511627776 ≤ n) (h1 : n ≤ 1099511627776) : (secText n).length ≤ 21 := by
  unfold secText
  split
  · have := dec_len_le (-n).toNat (by omega)
    simp only [List.length_cons]; omega
  · have := dec_len_le n.toNat (by omega)
    omega
theorem lineQ (name : List UInt8) (ks : List (List UInt8)) (quiet : Bool) (h : LineWord name) (hk : ∀ k ∈ ks, LineWord k) (hl : (joinB name ks).length ≤ 2000) {r : Rq} (hr : readR name (withQ ks quiet) [] = .got r false 0) : tParse (joinB name ks ++ enQ quiet) = (r, (((joinB name (withQ ks quiet)).length + 2 : Nat) : Int) + 0) := by
  have e : joinB name ks ++ enQ quiet = joinB name (withQ ks quiet) ++ 13 :: 10 :: [] := by
    cases quiet with
    | false => rfl
    | true =>
      show joinB name ks ++ _ = joinB name (ks ++ [b_noreply]) ++ _
      clear hr hl hk h
      induction ks generalizing name with
      | nil => simp [joinB, enQ, b_noreply]
      | cons k ks ih => simpa [joinB] using ih k
  have hl2 : (joinB name (withQ ks quiet)).length ≤ (joinB name ks).length + 8 := by
    have := congrArg List.length e
    simp only [List.length_append, List.length_cons, List.length_nil] at this
    have h2 : (enQ quiet).length ≤ 10 := by cases quiet <;> simp [enQ]
    omega
  have hk' : ∀ k ∈ withQ ks quiet, LineWord k := by
    intro k hm
    cases quiet with
    | false => exact hk k hm
    | true =>
      rcases List.mem_append.1 hm with hm | hm
      · exact hk k hm
      · rw [List.mem_singleton.1 hm]; exact nr_line
  rw [e, parse_words' h hk' (by omega) [], hr]
  rfl
section
variable {key : List UInt8} (hk : keyB key = true)
include hk
theorem key_le : key.length ≤ 250 := by
  simp only [keyB, Bool.and_eq_true, decide_eq_true_eq] at hk
  exact hk.2
theorem ps_incr {n : Int} (n0 : 0 ≤ n) (n1 : n < 18446744073709551616) (quiet : Bool) : ∃ L : Int, tParse ([105, 110, 99, 114, 32] ++ key ++ [32] ++ decDigits n.toNat ++ enQ quiet) = (doR [{ Cd.zero with op := 3, key := key, delta := n, down := false }] quiet, L) := by
  have hn : n.toNat < 18446744073709551616 := by omega
  have h := lineQ [105, 110, 99, 114] [key, decDigits n.toNat] quiet ⟨⟨by decide, by decide⟩, by decide, by decide⟩ (lw2 (key_word hk) (dec_line _)) (by have := key_le hk; have := dec_len_le _ hn; simp [joinB]; omega) (read_incr hk n.toNat hn quiet [])
  rw [show ((n.toNat : Nat) : Int) = n by omega] at h
  refine ⟨_, Eq.trans ?_ h⟩
  simp [joinB]
theorem ps_decr {n : Int} (n0 : 0 ≤ n) (n1 : n < 18446744073709551616) (quiet : Bool) : ∃ L : Int, tParse ([100, 101, 99, 114, 32] ++ key ++ [32] ++ decDigits n.toNat ++ enQ quiet) = (doR [{ Cd.zero with op := 3, key := key, delta := n, down := true }] quiet, L) := by
  have hn : n.toNat < 18446744073709551616 := by omega
  have h := lineQ [100, 101, 99, 114] [key, decDigits n.toNat] quiet ⟨⟨by decide, by decide⟩, by decide, by decide⟩ (lw2 (key_word hk) (dec_line _)) (by have := key_le hk; have := dec_len_le _ hn; simp [joinB]; omega) (read_decr hk n.toNat hn quiet [])
  rw [show ((n.toNat : Nat) : Int) = n by omega] at h
  refine ⟨_, Eq.trans ?_ h⟩
  simp [joinB]
theorem ps_touch {n : Int} (n0 : -1099511627776 ≤ n) (n1 : n ≤ 1099511627776) (quiet : Bool) : ∃ L : Int, tParse ([116, 111, 117, 99, 104, 32] ++ key ++ [32] ++ secText n ++ enQ quiet) = (doR [{ Cd.zero with op := 4, key := key, exp := n }] quiet, L) := by
  have h := lineQ [116, 111, 117, 99, 104] [key, secText n] quiet ⟨⟨by decide, by decide⟩, by decide, by decide⟩ (lw2 (key_word hk) (sec_line _)) (by have := key_le hk; have := secText_len n0 n1; simp [joinB]; omega) (read_touch hk n0 n1 quiet [])
  refine ⟨_, Eq.trans ?_ h⟩
  simp [joinB]
theorem ps_gat {n : Int} (n0 : -1099511627776 ≤ n) (n1 : n ≤ 1099511627776) : ∃ L : Int, tParse ([103, 97, 116, 32] ++ secText n ++ [32] ++ key ++ [13, 10]) = (doR [{ Cd.zero with op := 1, key := key, exp := n, hasExp := true }] false, L) := by
  have h := lineQ [103, 97, 116] [secText n, key] false ⟨⟨by decide, by decide⟩, by decide, by decide⟩ (lw2 (sec_line _) (key_word hk)) (by have := key_le hk; have := secText_len n0 n1; simp [joinB]; omega) (read_gat hk n0 n1 [])
  refine ⟨_, Eq.trans ?_ h⟩
  simp [joinB, enQ]
end
theorem ps_flush {n : Int} (n0 : -1099511627776 ≤ n) (n1 : n ≤ 1099511627776) (quiet : Bool) : ∃ L : Int, tParse ([102, 108, 117, 115, 104, 95, 97, 108, 108, 32] ++ secText n ++ enQ quiet) = (doR [{ Cd.zero with op := 6, exp := n }] quiet, L) := by
  have h := lineQ [102, 108, 117, 115, 104, 95, 97, 108, 108] [secText n] quiet ⟨⟨by decide, by decide⟩, by decide, by decide⟩ (lw1 (sec_line _)) (by have := secText_len n0 n1; simp [joinB]; omega) (read_flush n0 n1 quiet [])
  refine ⟨_, Eq.trans ?_ h⟩
  simp [joinB]
end Go.Proofs.YtlaagebdbcmckaaGreatDoor
