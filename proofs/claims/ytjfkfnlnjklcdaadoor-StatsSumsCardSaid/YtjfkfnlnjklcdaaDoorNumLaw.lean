/- Plain laws on decimal texts: when a text is some digits, the number that it says, and how the library's reader and its own reference answer. No program in sight. -/
import Derived.Lib.SlTrimSet
import Derived.Lib.ParseIntB
import Derived.Lib.ItoaNum
namespace Go.Proofs.YtjfkfnlnjklcdaaDoor

def dgt (c : UInt8) : Bool := decide (48 ≤ c.toNat) && decide (c.toNat ≤ 57)
def allDgt (l : List UInt8) : Bool := l.all dgt
/-- the number that digits say, behind a beginning -/
def valFrom (a : Nat) (l : List UInt8) : Nat := l.foldl (fun n c => 10 * n + (c.toNat - 48)) a
def valOf (l : List UInt8) : Nat := valFrom 0 l
theorem valFrom_cons (a : Nat) (c : UInt8) (l : List UInt8) : valFrom a (c :: l) = valFrom (10 * a + (c.toNat - 48)) l := by unfold valFrom; rw [List.foldl_cons]
theorem valFrom_app (a : Nat) (l m : List UInt8) : valFrom a (l ++ m) = valFrom (valFrom a l) m := by unfold valFrom; rw [List.foldl_append]
theorem valFrom_ge (l : List UInt8) : ∀ a, a ≤ valFrom a l := by
  induction l with
  | nil => intro a; exact Nat.le_refl _
  | cons c l ih => intro a; rw [valFrom_cons]; exact Nat.le_trans (by omega) (ih _)

theorem drop_nil (p : UInt8 → Bool) (l : List UInt8) : l.dropWhile p = [] ↔ l.all p = true := by
  induction l with
  | nil => simp
  | cons a l ih =>
    rw [List.dropWhile_cons]
    by_cases h : p a = true
    · rw [if_pos h, ih, List.all_cons, h, Bool.true_and]
    · rw [if_neg h]; simp [h]
theorem all_drop (p : UInt8 → Bool) (l : List UInt8) : (l.dropWhile p).all p = l.all p := by
  induction l with
  | nil => rfl
  | cons a l ih =>
    rw [List.dropWhile_cons]
    by_cases h : p a = true
    · rw [if_pos h, ih, List.all_cons, h, Bool.true_and]
    · rw [if_neg h]
theorem trimS_nil (l cs : List UInt8) : (Go.Lib.trimS l cs = []) ↔ l.all (cs.contains ·) = true := by
  unfold Go.Lib.trimS Go.Lib.trimLeftS Go.Lib.trimRightS
  rw [drop_nil, List.all_reverse, all_drop, List.all_reverse]
def tenDgts : List UInt8 := [48, 49, 50, 51, 52, 53, 54, 55, 56, 57]
theorem ten_dgt (c : UInt8) : tenDgts.contains c = dgt c := by
  unfold tenDgts dgt
  rw [Bool.eq_iff_iff]
  simp only [List.contains_eq_mem, List.mem_cons, List.mem_nil_iff, or_false, decide_eq_true_eq, Bool.and_eq_true]
  constructor
  · rintro (rfl | rfl | rfl | rfl | rfl | rfl | rfl | rfl | rfl | rfl) <;> decide
  · intro ⟨h1, h2⟩
    have : c.toNat = 48 ∨ c.toNat = 49 ∨ c.toNat = 50 ∨ c.toNat = 51 ∨ c.toNat = 52 ∨ c.toNat = 53 ∨ c.toNat = 54 ∨ c.toNat = 55 ∨ c.toNat = 56 ∨ c.toNat = 57 := by omega
    have e : ∀ k : UInt8, c.toNat = k.toNat → c = k := fun k h => UInt8.toNat_inj.1 h
    rcases this with h | h | h | h | h | h | h | h | h | h
    · exact .inl (e 48 h)
    · exact .inr (.inl (e 49 h))
    · exact .inr (.inr (.inl (e 50 h)))
    · exact .inr (.inr (.inr (.inl (e 51 h))))
    · exact .inr (.inr (.inr (.inr (.inl (e 52 h)))))
    · exact .inr (.inr (.inr (.inr (.inr (.inl (e 53 h))))))
    · exact .inr (.inr (.inr (.inr (.inr (.inr (.inl (e 54 h)))))))
    · exact .inr (.inr (.inr (.inr (.inr (.inr (.inr (.inl (e 55 h))))))))
    · exact .inr (.inr (.inr (.inr (.inr (.inr (.inr (.inr (.inl (e 56 h)))))))))
    · exact .inr (.inr (.inr (.inr (.inr (.inr (.inr (.inr (.inr (e 57 h)))))))))
theorem trim_digits (l : List UInt8) : (Go.Lib.trimS l tenDgts).isEmpty = allDgt l := by
  rw [Bool.eq_iff_iff, List.isEmpty_iff, trimS_nil]
  unfold allDgt
  have : (fun c => tenDgts.contains c) = dgt := funext ten_dgt
  rw [this]

/-- the library's reader over digits alone -/
theorem parseUintM_dgts (M : Nat) (hM : M ≤ 18446744073709551615) : ∀ (l : List UInt8) (a : Nat), allDgt l = true → a ≤ M →
    (valFrom a l ≤ M ∧ Go.Lib.parseUintM M a l = .ok (valFrom a l)) ∨ (M < valFrom a l ∧ Go.Lib.parseUintM M a l = .range) := by
  intro l
  induction l with
  | nil => intro a _ ha; exact .inl ⟨ha, rfl⟩
  | cons c l ih =>
    intro a hd ha
    simp only [allDgt, List.all_cons, Bool.and_eq_true] at hd
    obtain ⟨hc, hl⟩ := hd
    simp only [dgt, Bool.and_eq_true, decide_eq_true_eq] at hc
    unfold Go.Lib.parseUintM
    rw [if_pos hc]
    rw [valFrom_cons, show 10 * a + (c.toNat - 48) = a * 10 + (c.toNat - 48) by omega]
    by_cases h1 : 1844674407370955162 ≤ a
    · rw [if_pos h1]
      have := valFrom_ge l (a * 10 + (c.toNat - 48))
      exact .inr ⟨by omega, rfl⟩
    · rw [if_neg h1]
      by_cases h2 : M < a * 10 + (c.toNat - 48)
      · rw [if_pos h2]
        have := valFrom_ge l (a * 10 + (c.toNat - 48))
        exact .inr ⟨by omega, rfl⟩
      · rw [if_neg h2]
        exact ih _ hl (by omega)
theorem parseUintB_dgts (l : List UInt8) (hne : l ≠ []) (hd : allDgt l = true) :
    (valOf l < 18446744073709551616 ∧ Go.Lib.parseUintB 64 l = .ok (valOf l)) ∨ (18446744073709551616 ≤ valOf l ∧ Go.Lib.parseUintB 64 l = .range) := by
  unfold Go.Lib.parseUintB
  rw [if_neg hne]
  rcases parseUintM_dgts (2 ^ 64 - 1) (by decide) l 0 hd (by omega) with ⟨h, e⟩ | ⟨h, e⟩
  · exact .inl ⟨by unfold valOf; omega, e⟩
  · exact .inr ⟨by unfold valOf; omega, e⟩

/-- the document's Parse: some digits, twenty at most, below 2 to the 64th -/
def parseV (l : List UInt8) : Option Nat := if l ≠ [] ∧ l.length ≤ 20 ∧ allDgt l = true ∧ valOf l < 18446744073709551616 then some (valOf l) else none

theorem allDgt_take (l : List UInt8) (k : Nat) (h : allDgt l = true) : allDgt (l.take k) = true := by
  unfold allDgt at *
  rw [List.all_eq_true] at *
  exact fun x hx => h x (List.mem_of_mem_take hx)
theorem take_one (l : List UInt8) (k : Nat) (h : k < l.length) : l.take (k + 1) = l.take k ++ [l[k]] := by rw [List.take_add_one, List.getElem?_eq_getElem h]; rfl
theorem valOf_snoc (l : List UInt8) (c : UInt8) : valOf (l ++ [c]) = 10 * valOf l + (c.toNat - 48) := by unfold valOf; rw [valFrom_app]; rfl
theorem valOf_take_le (l : List UInt8) (k : Nat) : valOf (l.take k) ≤ valOf l := by
  have h := List.take_append_drop k l
  rw [show valOf l = valFrom (valOf (l.take k)) (l.drop k) from by unfold valOf; rw [← valFrom_app, h]]
  exact valFrom_ge _ _
theorem allDgt_snoc (l : List UInt8) (c : UInt8) : allDgt (l ++ [c]) = (allDgt l && dgt c) := by simp [allDgt]
theorem parseV_bad (l : List UInt8) (k : Nat) (h : k < l.length) (hc : dgt l[k] = false) : parseV l = none := by
  unfold parseV
  rw [if_neg]
  rintro ⟨_, _, h3, _⟩
  unfold allDgt at h3
  rw [List.all_eq_true] at h3
  rw [h3 _ (List.getElem_mem h)] at hc
  cases hc
theorem parseV_over (l : List UInt8) (k : Nat) (h : 18446744073709551616 ≤ valOf (l.take k)) : parseV l = none := by
  unfold parseV
  rw [if_neg]
  rintro ⟨_, _, _, h4⟩
  have := valOf_take_le l k
  omega
theorem parseV_all (l : List UInt8) (h0 : l ≠ []) (h1 : l.length ≤ 20) (h2 : allDgt l = true) (h3 : valOf l < 18446744073709551616) : parseV l = some (valOf l) := by
  unfold parseV; rw [if_pos ⟨h0, h1, h2, h3⟩]
theorem parseV_len (l : List UInt8) (h : l.length < 1 ∨ 20 < l.length) : parseV l = none := by
  unfold parseV
  rw [if_neg]
  rintro ⟨h0, h1, _, _⟩
  have : l.length ≠ 0 := fun e => h0 (List.eq_nil_of_length_eq_zero e)
  omega
end Go.Proofs.YtjfkfnlnjklcdaaDoor
