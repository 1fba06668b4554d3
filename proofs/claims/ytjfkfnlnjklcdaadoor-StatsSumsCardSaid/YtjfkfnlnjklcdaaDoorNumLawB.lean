/- Plain laws on decimal texts, the second part: a number's text says it; texts are ordered as numbers are. No program in sight. -/
import Derived.Test.YtjfkfnlnjklcdaaDoorNumLaw
import Derived.WalkKit
namespace Go.Proofs.YtjfkfnlnjklcdaaDoor
open Go.Lib

theorem byte48 (k : Nat) (h : k < 10) : (UInt8.ofNat (48 + k)).toNat = 48 + k := by rw [UInt8.toNat_ofNat']; omega
theorem dec_step (u : Nat) (h : 10 ≤ u) : decDigits u = decDigits (u / 10) ++ [UInt8.ofNat (48 + u % 10)] := by rw [decDigits, dif_neg (by omega)]
theorem valOf_dec (u : Nat) : valOf (decDigits u) = u := by
  induction u using Nat.strongRecOn with
  | _ u ih =>
    by_cases h : u < 10
    · rw [decDigits_one h]
      show 10 * 0 + ((UInt8.ofNat (48 + u)).toNat - 48) = u
      rw [byte48 u h]; omega
    · rw [dec_step u (by omega), valOf_snoc, ih (u / 10) (by omega), byte48 _ (by omega)]; omega
theorem dgt_of (k : Nat) (h : k < 10) : dgt (UInt8.ofNat (48 + k)) = true := by
  unfold dgt; rw [byte48 k h]; simp; omega
theorem allDgt_dec (u : Nat) : allDgt (decDigits u) = true := by
  induction u using Nat.strongRecOn with
  | _ u ih =>
    by_cases h : u < 10
    · rw [decDigits_one h]; show (dgt _ && true) = true; rw [dgt_of u h]; rfl
    · rw [dec_step u (by omega), allDgt_snoc, ih (u / 10) (by omega), dgt_of _ (by omega)]; rfl
theorem dec_len (u : Nat) : 1 ≤ (decDigits u).length := by
  rw [decDigits_length]
  by_cases h : u < 10
  · rw [nDigits_small h]; omega
  · rw [nDigits_big h]; omega
theorem dec_len_le (u : Nat) (h : u < 18446744073709551616) : (decDigits u).length ≤ 20 := by
  rw [decDigits_length]
  by_cases h1 : 1 ≤ u
  · have h2 := numDigits_eq u h1 h; split at h2 <;> omega
  · rw [show u = 0 by omega, nDigits_small (by omega)]; omega
theorem parseV_dec (u : Nat) (h : u < 18446744073709551616) : parseV (decDigits u) = some u := by
  have h1 := dec_len u
  rw [parseV_all _ (by intro e; rw [e] at h1; simp at h1) (dec_len_le u h) (allDgt_dec u) (by rw [valOf_dec]; exact h), valOf_dec]
theorem dec_inj {u v : Nat} (h : decDigits u = decDigits v) : u = v := by rw [← valOf_dec u, h, valOf_dec]

theorem len_mono {u v : Nat} (h : u ≤ v) : (decDigits u).length ≤ (decDigits v).length := by
  induction v using Nat.strongRecOn generalizing u with
  | _ v ih =>
    by_cases hu : u < 10
    · rw [decDigits_one hu]; exact dec_len v
    · rw [dec_step u (by omega), dec_step v (by omega), List.length_append, List.length_append]
      have := ih (v / 10) (by omega) (u := u / 10) (by omega)
      simp; omega

theorem valFrom_lt : ∀ (l : List UInt8) (a : Nat), allDgt l = true → valFrom a l < (a + 1) * 10 ^ l.length := by
  intro l
  induction l with
  | nil => intro a _; show a < (a + 1) * 1; omega
  | cons c l ih =>
    intro a hd
    simp only [allDgt, List.all_cons, Bool.and_eq_true] at hd
    obtain ⟨hc, hl⟩ := hd
    simp only [dgt, Bool.and_eq_true, decide_eq_true_eq] at hc
    rw [valFrom_cons, List.length_cons, Nat.pow_succ]
    have h1 := ih (10 * a + (c.toNat - 48)) hl
    have h2 : (10 * a + (c.toNat - 48) + 1) * 10 ^ l.length ≤ (10 * (a + 1)) * 10 ^ l.length := Nat.mul_le_mul (by omega) (Nat.le_refl _)
    have h3 : (10 * (a + 1)) * 10 ^ l.length = (a + 1) * (10 ^ l.length * 10) := by rw [Nat.mul_comm 10 (a + 1), Nat.mul_assoc, Nat.mul_comm 10]
    omega
theorem valFrom_base : ∀ (l : List UInt8) (a b : Nat), valFrom (a + b) l = a * 10 ^ l.length + valFrom b l := by
  intro l
  induction l with
  | nil => intro a b; show a + b = a * 1 + b; omega
  | cons c l ih =>
    intro a b
    rw [valFrom_cons, valFrom_cons, List.length_cons, Nat.pow_succ, show 10 * (a + b) + (c.toNat - 48) = 10 * a + (10 * b + (c.toNat - 48)) by omega, ih]
    rw [Nat.mul_comm 10 a, Nat.mul_assoc, Nat.mul_comm 10]
/-- texts of one length, digits alone: as the numbers that they say -/
theorem less_iff : ∀ (l m : List UInt8), l.length = m.length → allDgt l = true → allDgt m = true → (Op.bytesLess l m = true ↔ valOf l < valOf m) := by
  intro l
  induction l with
  | nil =>
    intro m h _ _
    have : m = [] := List.eq_nil_of_length_eq_zero h.symm
    subst this
    simp [Op.bytesLess]
  | cons c l ih =>
    intro m h hl hm
    cases m with
    | nil => cases h
    | cons d m =>
      simp only [allDgt, List.all_cons, Bool.and_eq_true] at hl hm
      obtain ⟨hc, hl⟩ := hl
      obtain ⟨hd, hm⟩ := hm
      simp only [dgt, Bool.and_eq_true, decide_eq_true_eq] at hc hd
      have hlen : l.length = m.length := by simpa using h
      have i1 := ih m hlen hl hm
      have e1 : valOf (c :: l) = (c.toNat - 48) * 10 ^ l.length + valOf l := by
        unfold valOf; rw [valFrom_cons, show 10 * 0 + (c.toNat - 48) = (c.toNat - 48) + 0 by omega, valFrom_base]
      have e2 : valOf (d :: m) = (d.toNat - 48) * 10 ^ l.length + valOf m := by
        unfold valOf; rw [valFrom_cons, show 10 * 0 + (d.toNat - 48) = (d.toNat - 48) + 0 by omega, valFrom_base, hlen]
      have b1 := valFrom_lt l 0 hl
      have b2 := valFrom_lt m 0 hm
      rw [← hlen] at b2
      change valOf l < _ at b1
      change valOf m < _ at b2
      rw [e1, e2]
      generalize 10 ^ l.length = T at *
      rw [Nat.zero_add, Nat.one_mul] at b1 b2
      unfold Op.bytesLess
      rw [Bool.or_eq_true, Bool.and_eq_true, decide_eq_true_eq, beq_iff_eq, i1, UInt8.lt_iff_toNat_lt, ← UInt8.toNat_inj]
      rcases Nat.lt_trichotomy c.toNat d.toNat with h1 | h1 | h1
      · have h2 : (c.toNat - 48 + 1) * T ≤ (d.toNat - 48) * T := Nat.mul_le_mul (by omega) (Nat.le_refl _)
        rw [Nat.add_mul, Nat.one_mul] at h2
        constructor
        · intro _; omega
        · intro _; exact .inl h1
      · rw [h1]
        constructor
        · rintro (h2 | ⟨_, h2⟩) <;> omega
        · intro h2; exact .inr ⟨rfl, by omega⟩
      · have h2 : (d.toNat - 48 + 1) * T ≤ (c.toNat - 48) * T := Nat.mul_le_mul (by omega) (Nat.le_refl _)
        rw [Nat.add_mul, Nat.one_mul] at h2
        constructor
        · rintro (h3 | ⟨h3, _⟩) <;> omega
        · intro h3; omega

theorem order_num (u v : Nat) : decide (u < v) = (decide ((decDigits u).length < (decDigits v).length) || (decide ((decDigits u).length = (decDigits v).length) && Op.bytesLess (decDigits u) (decDigits v))) := by
  rw [Bool.eq_iff_iff, Bool.or_eq_true, Bool.and_eq_true, decide_eq_true_eq, decide_eq_true_eq, decide_eq_true_eq]
  constructor
  · intro h
    have h1 := len_mono (u := u) (v := v) (by omega)
    by_cases h2 : (decDigits u).length = (decDigits v).length
    · exact .inr ⟨h2, (less_iff _ _ h2 (allDgt_dec u) (allDgt_dec v)).2 (by rw [valOf_dec, valOf_dec]; exact h)⟩
    · exact .inl (by omega)
  · rintro (h | ⟨h, h2⟩)
    · refine Classical.byContradiction fun hn => ?_
      have h1 := len_mono (u := v) (v := u) (by omega)
      omega
    · have := (less_iff _ _ h (allDgt_dec u) (allDgt_dec v)).1 h2
      rwa [valOf_dec, valOf_dec] at this
end Go.Proofs.YtjfkfnlnjklcdaaDoor
