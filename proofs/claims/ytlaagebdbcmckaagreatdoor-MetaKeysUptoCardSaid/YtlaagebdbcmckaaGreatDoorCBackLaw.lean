/- Plain laws on texts: noughts ahead, a dash ahead, a byte put in. No program in sight. -/
import Derived.Test.YtlaagebdbcmckaaGreatDoorBC
namespace Go.Proofs.YtlaagebdbcmckaaGreatDoor
set_option linter.unusedSimpArgs false
set_option linter.unusedVariables false
open Go.Lib

theorem valFrom_zeros (k : Nat) (l : List UInt8) : valOf (List.replicate k 48 ++ l) = valOf l := by
  unfold valOf
  rw [valFrom_app]
  congr 1
  induction k with
  | zero => rfl
  | succ k ih => rw [List.replicate_succ, valFrom_cons]; exact ih
theorem allDgt_zeros (k : Nat) (l : List UInt8) (h : allDgt l = true) : allDgt (List.replicate k 48 ++ l) = true := by
  unfold allDgt at *
  rw [List.all_append, h, Bool.and_true, List.all_eq_true]
  intro x hx
  rw [List.eq_of_mem_replicate hx]; rfl
theorem parseV_zeros (k : Nat) (u : Nat) (h : u < 18446744073709551616) : parseV (List.replicate k 48 ++ decDigits u) = if (List.replicate k (48 : UInt8) ++ decDigits u).length ≤ 20 then some u else none := by
  have h1 := dec_len u
  by_cases hc : (List.replicate k (48 : UInt8) ++ decDigits u).length ≤ 20
  · rw [if_pos hc, parseV_all _ (by intro e; have := congrArg List.length e; simp at this; rw [this.2] at h1; simp at h1) hc (allDgt_zeros k _ (allDgt_dec u)) (by rw [valFrom_zeros, valOf_dec]; exact h), valFrom_zeros, valOf_dec]
  · rw [if_neg hc, parseV_len _ (.inr (by omega))]
theorem len19 (u : Nat) (h : u < 10000000000000000000) : (decDigits u).length ≤ 19 := by
  have h1 := len_mono (u := u) (v := 9999999999999999999) (by omega)
  have h2 : (decDigits 9999999999999999999).length = 19 := by decide +kernel
  omega
theorem dec_notneg (u : Nat) : isNeg (decDigits u) = false := by
  have h1 := allDgt_dec u
  cases h : decDigits u with
  | nil => rfl
  | cons c r =>
    rw [h] at h1
    simp only [allDgt, List.all_cons, Bool.and_eq_true, dgt, decide_eq_true_eq] at h1
    unfold isNeg
    rw [beq_eq_false_iff_ne]
    rintro rfl
    have := h1.1.1
    rw [show (45 : UInt8).toNat = 45 from rfl] at this
    omega
theorem unsig_dec (u : Nat) : unsig (decDigits u) = decDigits u := by unfold unsig; rw [if_neg (by rw [dec_notneg]; decide)]
theorem dec_ne (u : Nat) : decDigits u ≠ [] := by intro e; have := dec_len u; rw [e] at this; simp at this
theorem signedV_dec_lo (u : Nat) (h : u < 9223372036854775808) : signedV (decDigits u) = some (u : Int) := by
  unfold signedV
  rw [unsig_dec, if_pos ⟨dec_ne u, len19 u (by omega), allDgt_dec u, .inl (by rw [valOf_dec]; exact h)⟩, if_neg (by rw [dec_notneg]; decide), valOf_dec]
theorem signedV_dec_hi (u : Nat) (h : 9223372036854775808 ≤ u) : signedV (decDigits u) = none := by
  unfold signedV
  rw [unsig_dec, if_neg]
  rintro ⟨_, _, _, h4⟩
  rw [valOf_dec, dec_notneg] at h4
  rcases h4 with h4 | ⟨h4, _⟩
  · omega
  · cases h4
theorem signedV_dash_lo (u : Nat) (h : u ≤ 9223372036854775808) : signedV (45 :: decDigits u) = some (-(u : Int)) := by
  unfold signedV
  rw [show unsig (45 :: decDigits u) = decDigits u from rfl, if_pos ⟨dec_ne u, len19 u (by omega), allDgt_dec u, by rw [valOf_dec]; rcases Nat.lt_or_ge u 9223372036854775808 with h1 | h1; exact .inl h1; exact .inr ⟨rfl, by omega⟩⟩, if_pos (show isNeg (45 :: decDigits u) = true from rfl), valOf_dec]
theorem signedV_dash_hi (u : Nat) (h : 9223372036854775808 < u) : signedV (45 :: decDigits u) = none := by
  unfold signedV
  rw [show unsig (45 :: decDigits u) = decDigits u from rfl, if_neg]
  rintro ⟨_, _, _, h4⟩
  rw [valOf_dec] at h4
  rcases h4 with h4 | ⟨_, h4⟩ <;> omega

/-- a byte that is no digit, put in anywhere -/
theorem parseV_in (l : List UInt8) (k : Nat) (c : UInt8) (hc : dgt c = false) : parseV (l.take k ++ [c] ++ l.drop k) = none := by
  unfold parseV
  rw [if_neg]
  rintro ⟨_, _, h, _⟩
  simp [allDgt, hc] at h
theorem signedV_in (l : List UInt8) (k : Nat) (c : UInt8) (hc : dgt c = false) (h : c ≠ 45 ∨ (l.take k) ≠ []) (hl : isNeg l = false) : signedV (l.take k ++ [c] ++ l.drop k) = none := by
  have hn : isNeg (l.take k ++ [c] ++ l.drop k) = false := by
    cases ht : l.take k with
    | nil =>
      rcases h with h | h
      · simp [isNeg, h]
      · exact absurd ht h
    | cons d r =>
      cases l with
      | nil => simp at ht
      | cons e l =>
        cases k with
        | zero => simp at ht
        | succ k =>
          simp at ht
          rw [← ht.1]
          simpa [isNeg] using hl
  unfold signedV
  have hu : unsig (l.take k ++ [c] ++ l.drop k) = l.take k ++ [c] ++ l.drop k := by unfold unsig; rw [if_neg (by rw [hn]; decide)]
  rw [hu, if_neg]
  rintro ⟨_, _, h, _⟩
  simp [allDgt, hc] at h
end Go.Proofs.YtlaagebdbcmckaaGreatDoor
