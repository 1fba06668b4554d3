/- Plain laws on decimal texts: when a text is some digits, the number that it says, and how the library's reader and its own reference answer. No program in sight. -/
import Derived.Lib.SlTrimSet
import Derived.Lib.ParseIntB
import Derived.Lib.ItoaNum
import Derived.WalkKit
import Derived.Lib.Bytealg
import Derived.Lib.ParseIntBCases
import Derived.Lib.Strings
import Derived.Lib.IndexMore
import Derived.Lib.IndexBytes
import Derived.Lib.Join
namespace Go.Proofs.YtlaagebdbcmckaaGreatDoor
set_option linter.unusedSimpArgs false
set_option linter.unusedVariables false
def dgt (c : UInt8) : Bool := decide (48 ≤ c.toNat) && decide (c.toNat ≤ 57)
def allDgt (l : List UInt8) : Bool := l.all dgt
def valFrom (a : Nat) (l : List UInt8) : Nat := l.foldl (fun n c => 10 * n + (c.toNat - 48)) a
def valOf (l : List UInt8) : Nat := valFrom 0 l
theorem valFrom_cons (a : Nat) (c : UInt8) (l : List UInt8) : valFrom a (c :: l) = valFrom (10 * a + (c.toNat - 48)) l := by unfold valFrom; rw [List.foldl_cons]
theorem valFrom_app (a : Nat) (l m : List UInt8) : valFrom a (l ++ m) = valFrom (valFrom a l) m := by unfold valFrom; rw [List.foldl_append]
theorem valFrom_ge (l : List UInt8) : ∀ a, a ≤ valFrom a l := by
  induction l with
  | nil => intro a; exact Nat.le_refl _
  | cons c l ih => intro a; rw [valFrom_cons]; exact Nat.le_trans (by omega) (ih _)
theorem drop_nil (p : UInt8 → Bool) (l : List UInt8) : l.dropWhile p = [] ↔ l.all p = true := by
  induction l with
  | nil => simp
  | cons a l ih =>
    rw [List.dropWhile_cons]
    by_cases h : p a = true
    · rw [if_pos h, ih, List.all_cons, h, Bool.true_and]
    · rw [if_neg h]; simp [h]
theorem all_drop (p : UInt8 → Bool) (l : List UInt8) : (l.dropWhile p).all p = l.all p := by
  induction l with
  | nil => rfl
  | cons a l ih =>
    rw [List.dropWhile_cons]
    by_cases h : p a = true
    · rw [if_pos h, ih, List.all_cons, h, Bool.true_and]
    · rw [if_neg h]
theorem trimS_nil (l cs : List UInt8) : (Go.Lib.trimS l cs = []) ↔ l.all (cs.contains ·) = true := by
  unfold Go.Lib.trimS Go.Lib.trimLeftS Go.Lib.trimRightS
  rw [drop_nil, List.all_reverse, all_drop, List.all_reverse]
def tenDgts : List UInt8 := [48, 49, 50, 51, 52, 53, 54, 55, 56, 57]
theorem ten_dgt (c : UInt8) : tenDgts.contains c = dgt c := by
  unfold tenDgts dgt
  rw [Bool.eq_iff_iff]
  simp only [List.contains_eq_mem, List.mem_cons, List.mem_nil_iff, or_false, decide_eq_true_eq, Bool.and_eq_true]
  constructor
  · rintro (rfl | rfl | rfl | rfl | rfl | rfl | rfl | rfl | rfl | rfl) <;> decide
  · intro ⟨h1, h2⟩
    have : c.toNat = 48 ∨ c.toNat = 49 ∨ c.toNat = 50 ∨ c.toNat = 51 ∨ c.toNat = 52 ∨ c.toNat = 53 ∨ c.toNat = 54 ∨ c.toNat = 55 ∨ c.toNat = 56 ∨ c.toNat = 57 := by omega
    have e : ∀ k : UInt8, c.toNat = k.toNat → c = k := fun k h => UInt8.toNat_inj.1 h
    rcases this with h | h | h | h | h | h | h | h | h | h
    · exact .inl (e 48 h)
    · exact .inr (.inl (e 49 h))
    · exact .inr (.inr (.inl (e 50 h)))
    · exact .inr (.inr (.inr (.inl (e 51 h))))
    · exact .inr (.inr (.inr (.inr (.inl (e 52 h)))))
    · exact .inr (.inr (.inr (.inr (.inr (.inl (e 53 h))))))
    · exact .inr (.inr (.inr (.inr (.inr (.inr (.inl (e 54 h)))))))
    · exact .inr (.inr (.inr (.inr (.inr (.inr (.inr (.inl (e 55 h))))))))
    · exact .inr (.inr (.inr (.inr (.inr (.inr (.inr (.inr (.inl (e 56 h)))))))))
    · exact .inr (.inr (.inr (.inr (.inr (.inr (.inr (.inr (.inr (e 57 h)))))))))
theorem trim_digits (l : List UInt8) : (Go.Lib.trimS l tenDgts).isEmpty = allDgt l := by
  rw [Bool.eq_iff_iff, List.isEmpty_iff, trimS_nil]
  unfold allDgt
  have : (fun c => tenDgts.contains c) = dgt := funext ten_dgt
  rw [this]
theorem parseUintM_dgts (M : Nat) (hM : M ≤ 18446744073709551615) : ∀ (l : List UInt8) (a : Nat), allDgt l = true → a ≤ M →
    (valFrom a l ≤ M ∧ Go.Lib.parseUintM M a l = .ok (valFrom a l)) ∨ (M < valFrom a l ∧ Go.Lib.parseUintM M a l = .range) := by
  intro l
  induction l with
  | nil => intro a _ ha; exact .inl ⟨ha, rfl⟩
  | cons c l ih =>
    intro a hd ha
    simp only [allDgt, List.all_cons, Bool.and_eq_true] at hd
    obtain ⟨hc, hl⟩ := hd
    simp only [dgt, Bool.and_eq_true, decide_eq_true_eq] at hc
    unfold Go.Lib.parseUintM
    rw [if_pos hc]
    rw [valFrom_cons, show 10 * a + (c.toNat - 48) = a * 10 + (c.toNat - 48) by omega]
    by_cases h1 : 1844674407370955162 ≤ a
    · rw [if_pos h1]
      have := valFrom_ge l (a * 10 + (c.toNat - 48))
      exact .inr ⟨by omega, rfl⟩
    · rw [if_neg h1]
      by_cases h2 : M < a * 10 + (c.toNat - 48)
      · rw [if_pos h2]
        have := valFrom_ge l (a * 10 + (c.toNat - 48))
        exact .inr ⟨by omega, rfl⟩
      · rw [if_neg h2]
        exact ih _ hl (by omega)
theorem parseUintB_dgts (l : List UInt8) (hne : l ≠ []) (hd : allDgt l = true) :
    (valOf l < 18446744073709551616 ∧ Go.Lib.parseUintB 64 l = .ok (valOf l)) ∨ (18446744073709551616 ≤ valOf l ∧ Go.Lib.parseUintB 64 l = .range) := by
  unfold Go.Lib.parseUintB
  rw [if_neg hne]
  rcases parseUintM_dgts (2 ^ 64 - 1) (by decide) l 0 hd (by omega) with ⟨h, e⟩ | ⟨h, e⟩
  · exact .inl ⟨by unfold valOf; omega, e⟩
  · exact .inr ⟨by unfold valOf; omega, e⟩
def parseV (l : List UInt8) : Option Nat := if l ≠ [] ∧ l.length ≤ 20 ∧ allDgt l = true ∧ valOf l < 18446744073709551616 then some (valOf l) else none
theorem take_one (l : List UInt8) (k : Nat) (h : k < l.length) : l.take (k + 1) = l.take k ++ [l[k]] := by rw [List.take_add_one, List.getElem?_eq_getElem h]; rfl
theorem valOf_snoc (l : List UInt8) (c : UInt8) : valOf (l ++ [c]) = 10 * valOf l + (c.toNat - 48) := by unfold valOf; rw [valFrom_app]; rfl
theorem valOf_take_le (l : List UInt8) (k : Nat) : valOf (l.take k) ≤ valOf l := by
  have h := List.take_append_drop k l
  rw [show valOf l = valFrom (valOf (l.take k)) (l.drop k) from by unfold valOf; rw [← valFrom_app, h]]
  exact valFrom_ge _ _
theorem allDgt_snoc (l : List UInt8) (c : UInt8) : allDgt (l ++ [c]) = (allDgt l && dgt c) := by simp [allDgt]
theorem parseV_bad (l : List UInt8) (k : Nat) (h : k < l.length) (hc : dgt l[k] = false) : parseV l = none := by
  unfold parseV
  rw [if_neg]
  rintro ⟨_, _, h3, _⟩
  unfold allDgt at h3
  rw [List.all_eq_true] at h3
  rw [h3 _ (List.getElem_mem h)] at hc
  cases hc
theorem parseV_over (l : List UInt8) (k : Nat) (h : 18446744073709551616 ≤ valOf (l.take k)) : parseV l = none := by
  unfold parseV
  rw [if_neg]
  rintro ⟨_, _, _, h4⟩
  have := valOf_take_le l k
  omega
theorem parseV_all (l : List UInt8) (h0 : l ≠ []) (h1 : l.length ≤ 20) (h2 : allDgt l = true) (h3 : valOf l < 18446744073709551616) : parseV l = some (valOf l) := by
  unfold parseV; rw [if_pos ⟨h0, h1, h2, h3⟩]
theorem parseV_len (l : List UInt8) (h : l.length < 1 ∨ 20 < l.length) : parseV l = none := by
  unfold parseV
  rw [if_neg]
  rintro ⟨h0, h1, _, _⟩
  have : l.length ≠ 0 := fun e => h0 (List.eq_nil_of_length_eq_zero e)
  omega
end Go.Proofs.YtlaagebdbcmckaaGreatDoor
/- Plain laws on decimal texts, the second part: a number's text says it; texts are ordered as numbers are. No program in sight. -/
namespace Go.Proofs.YtlaagebdbcmckaaGreatDoor
set_option linter.unusedSimpArgs false
set_option linter.unusedVariables false
open Go.Lib
theorem dec_len_le (u : Nat) (h : u < 18446744073709551616) : (decDigits u).length ≤ 20 := by
  rw [decDigits_length]
  by_cases h1 : 1 ≤ u
  · have h2 := numDigits_eq u h1 h; split at h2 <;> omega
  · rw [show u = 0 by omega, nDigits_small (by omega)]; omega
theorem valFrom_lt : ∀ (l : List UInt8) (a : Nat), allDgt l = true → valFrom a l < (a + 1) * 10 ^ l.length := by
  intro l
  induction l with
  | nil => intro a _; show a < (a + 1) * 1; omega
  | cons c l ih =>
    intro a hd
    simp only [allDgt, List.all_cons, Bool.and_eq_true] at hd
    obtain ⟨hc, hl⟩ := hd
    simp only [dgt, Bool.and_eq_true, decide_eq_true_eq] at hc
    rw [valFrom_cons, List.length_cons, Nat.pow_succ]
    have h1 := ih (10 * a + (c.toNat - 48)) hl
    have h2 : (10 * a + (c.toNat - 48) + 1) * 10 ^ l.length ≤ (10 * (a + 1)) * 10 ^ l.length := Nat.mul_le_mul (by omega) (Nat.le_refl _)
    have h3 : (10 * (a + 1)) * 10 ^ l.length = (a + 1) * (10 ^ l.length * 10) := by rw [Nat.mul_comm 10 (a + 1), Nat.mul_assoc, Nat.mul_comm 10]
    omega
end Go.Proofs.YtlaagebdbcmckaaGreatDoor
/- The model's plain functions: what Apply computes of a state and a command. No program in sight. -/
namespace Go.Proofs.YtlaagebdbcmckaaGreatDoor
set_option linter.unusedSimpArgs false
set_option linter.unusedVariables false
open Go.Lib
structure It where
  key : List UInt8
  flags : Int
  val : List UInt8
  exp : Int
  cas : Int
  last : Int
  stale : Bool
  won : Bool
structure St where
  items : List It
  cas : Int
  flush : Int
structure Cd where
  op : Int
  mode : Int
  key : List UInt8
  val : List UInt8
  flags : Int
  exp : Int
  hasExp : Bool
  cas : Int
  hasCas : Bool
  delta : Int
  init : Int
  down : Bool
  viv : Bool
  vive : Int
  recache : Int
  inval : Bool
structure An where
  st : Int
  it : It
  num : Int
  w : Bool
  x : Bool
  z : Bool
def It.zero : It := ⟨[], 0, [], 0, 0, 0, false, false⟩
def St.zero : St := ⟨[], 0, 0⟩
def An.zero : An := ⟨0, It.zero, 0, false, false, false⟩
def keyB (k : List UInt8) : Bool := !k.isEmpty && (k.all fun c => decide (32 < c.toNat) && decide (c.toNat ≠ 127)) && decide (k.length ≤ 250)
def nearB (n : Int) : Bool := decide (-1099511627776 ≤ n) && decide (n ≤ 1099511627776)
end Go.Proofs.YtlaagebdbcmckaaGreatDoor
/- Plain laws on texts of numbers with a sign. No program in sight. -/
namespace Go.Proofs.YtlaagebdbcmckaaGreatDoor
set_option linter.unusedSimpArgs false
set_option linter.unusedVariables false
open Go.Lib
def isNeg : List UInt8 → Bool | c :: _ => c == 45 | [] => false
def unsig (l : List UInt8) : List UInt8 := if isNeg l then l.drop 1 else l
def signedV (l : List UInt8) : Option Int :=
  if unsig l ≠ [] ∧ (unsig l).length ≤ 19 ∧ allDgt (unsig l) = true ∧ (valOf (unsig l) < 9223372036854775808 ∨ isNeg l = true ∧ valOf (unsig l) = 9223372036854775808)
  then some (if isNeg l then -(valOf (unsig l) : Int) else (valOf (unsig l) : Int)) else none
theorem isNeg_cons {l : List UInt8} (h : isNeg l = true) : ∃ r, l = 45 :: r := by
  cases l with
  | nil => cases h
  | cons c r => exact ⟨r, by unfold isNeg at h; rw [beq_iff_eq.1 h]⟩
theorem trimDash (l : List UInt8) : trimPrefix l [45] = unsig l := by
  unfold trimPrefix hasPrefix unsig isNeg
  cases l with
  | nil => rfl
  | cons c r =>
    by_cases h : c = 45
    · subst h; rfl
    · have h1 : (c == 45) = false := by simpa using h
      have h2 : ([45] : List UInt8).isPrefixOf (c :: r) = false := by
        have : ((45 : UInt8) == c) = false := by simpa using fun e => h e.symm
        simp [List.isPrefixOf, this]
      rw [h2]
      show _ = if (c == 45) = true then _ else _
      rw [h1]; rfl
theorem pow19 : ∀ k, k ≤ 19 → 10 ^ k ≤ 10000000000000000000 := fun k hk => by
  have := Nat.pow_le_pow_right (n := 10) (by omega) hk
  exact this
theorem val19 (l : List UInt8) (h : l.length ≤ 19) (hd : allDgt l = true) : valOf l < 10000000000000000000 := by
  have h1 := valFrom_lt l 0 hd
  have h2 := pow19 l.length h
  unfold valOf; omega
theorem parseIntB_dgts (l : List UInt8) (h0 : unsig l ≠ []) (h1 : (unsig l).length ≤ 19) (h2 : allDgt (unsig l) = true) :
    (∃ v, signedV l = some v ∧ parseIntB 64 l = .ok v) ∨ (signedV l = none ∧ parseIntB 64 l = .range) := by
  have hv := val19 _ h1 h2
  have hp : parseUintB 64 (unsig l) = .ok (valOf (unsig l)) := by
    rcases parseUintB_dgts (unsig l) h0 h2 with ⟨_, e⟩ | ⟨h, _⟩
    · exact e
    · omega
  by_cases hn : isNeg l = true
  · obtain ⟨r, rfl⟩ := isNeg_cons hn
    have er : unsig (45 :: r) = r := rfl
    rw [er] at h0 h1 h2 hv hp
    rw [parseIntB_minus, hp]
    unfold signedC signedV
    rw [er, if_pos (show isNeg (45 :: r) = true from rfl)]
    by_cases hc : 2 ^ (64 - 1) < valOf r
    · exact .inr ⟨if_neg (fun ⟨_, _, _, h⟩ => by omega), if_pos hc⟩
    · exact .inl ⟨_, if_pos ⟨h0, h1, h2, by rcases Nat.lt_or_ge (valOf r) 9223372036854775808 with h | h; exact .inl h; exact .inr ⟨rfl, by omega⟩⟩, if_neg hc⟩
  · have hn' : isNeg l = false := by simpa using hn
    have er : unsig l = l := by unfold unsig; rw [if_neg hn]
    rw [er] at h0 h1 h2 hv hp
    cases l with
    | nil => exact absurd rfl h0
    | cons c r =>
      have hc : dgt c = true := by simp only [allDgt, List.all_cons, Bool.and_eq_true] at h2; exact h2.1
      simp only [dgt, Bool.and_eq_true, decide_eq_true_eq] at hc
      rw [parseIntB_plain 64 c r (by omega) (by omega), hp]
      unfold signlessC signedV
      rw [er, if_neg hn]
      by_cases hk : 2 ^ (64 - 1) ≤ valOf (c :: r)
      · exact .inr ⟨if_neg (fun ⟨_, _, _, h⟩ => by rcases h with h | ⟨h, _⟩; omega; exact hn h), if_pos hk⟩
      · exact .inl ⟨_, if_pos ⟨h0, h1, h2, .inl (by omega)⟩, if_neg hk⟩
end Go.Proofs.YtlaagebdbcmckaaGreatDoor
/- Plain laws on a line's words. No program in sight. -/
namespace Go.Proofs.YtlaagebdbcmckaaGreatDoor
set_option linter.unusedSimpArgs false
set_option linter.unusedVariables false
open Go.Lib
def wordsF : Nat → List UInt8 → List (List UInt8)
  | 0, _ => []
  | k + 1, l => if l.dropWhile (· == 32) = [] then [] else (l.dropWhile (· == 32)).takeWhile (· != 32) :: wordsF k (((l.dropWhile (· == 32)).dropWhile (· != 32)).drop 1)
end Go.Proofs.YtlaagebdbcmckaaGreatDoor
/- Cut at a blank, by what stands ahead of it and behind it. No program in sight. -/
namespace Go.Proofs.YtlaagebdbcmckaaGreatDoor
set_option linter.unusedSimpArgs false
set_option linter.unusedVariables false
open Go.Lib
theorem cut_cases (c : UInt8) (l : List UInt8) : (indexByte l c = -1 ∧ l.takeWhile (· != c) = l ∧ l.dropWhile (· != c) = []) ∨ (∃ k : Nat, indexByte l c = (k : Int) ∧ l.takeWhile (· != c) = l.take k ∧ l.dropWhile (· != c) = l.drop k) := by
  induction l with
  | nil => exact .inl ⟨rfl, rfl, rfl⟩
  | cons b l ih =>
    by_cases hb : b = c
    · subst hb
      exact .inr ⟨0, by simp [indexByte], by simp, by simp⟩
    · have hb2 : (b == c) = false := by simpa using hb
      have hb3 : (b != c) = true := by simpa using hb
      rcases ih with ⟨h1, h2, h3⟩ | ⟨k, h1, h2, h3⟩
      · refine .inl ⟨by simp [indexByte, hb2, h1], ?_, ?_⟩
        · rw [List.takeWhile_cons, if_pos hb3, h2]
        · rw [List.dropWhile_cons, if_pos hb3, h3]
      · refine .inr ⟨k + 1, ?_, ?_, ?_⟩
        · have : ¬ ((k : Int) = -1) := by omega
          simp [indexByte, hb2, h1, this]
        · rw [List.takeWhile_cons, if_pos hb3, h2, List.take_succ_cons]
        · rw [List.dropWhile_cons, if_pos hb3, h3, List.drop_succ_cons]
theorem cut_one (c : UInt8) (l : List UInt8) : (cut l [c]).1 = l.takeWhile (· != c) ∧ (cut l [c]).2.1 = (l.dropWhile (· != c)).drop 1 := by
  unfold cut
  rw [index_one]
  rcases cut_cases c l with ⟨h1, h2, h3⟩ | ⟨k, h1, h2, h3⟩
  · rw [h1, if_neg (by decide), h2, h3]
    exact ⟨rfl, rfl⟩
  · rw [h1, if_pos (by omega), h2, h3]
    refine ⟨by simp, ?_⟩
    simp [List.drop_drop]
end Go.Proofs.YtlaagebdbcmckaaGreatDoor
/- What text.Parse and text.Reply compute. No program in sight. Printed by gen_textf.py. -/
namespace Go.Proofs.YtlaagebdbcmckaaGreatDoor
set_option linter.unusedSimpArgs false
set_option linter.unusedVariables false
open Go.Lib
structure Rq where
  kind : Int
  cmds : List Cd
  quiet : Bool
  tokens : Bool
  reply : List UInt8
  arg : List UInt8
  skip : Int
  close : Bool
  word : List UInt8
def Rq.zero : Rq := ⟨0, [], false, false, [], [], 0, false, []⟩
def f_unknown : List UInt8 := [69, 82, 82, 79, 82]
def f_format : List UInt8 := [67, 76, 73, 69, 78, 84, 95, 69, 82, 82, 79, 82, 32, 98, 97, 100, 32, 99, 111, 109, 109, 97, 110, 100, 32, 108, 105, 110, 101, 32, 102, 111, 114, 109, 97, 116]
def f_large : List UInt8 := [83, 69, 82, 86, 69, 82, 95, 69, 82, 82, 79, 82, 32, 111, 98, 106, 101, 99, 116, 32, 116, 111, 111, 32, 108, 97, 114, 103, 101, 32, 102, 111, 114, 32, 99, 97, 99, 104, 101]
def b_chunk : List UInt8 := [67, 76, 73, 69, 78, 84, 95, 69, 82, 82, 79, 82, 32, 98, 97, 100, 32, 100, 97, 116, 97, 32, 99, 104, 117, 110, 107]
def b_long : List UInt8 := [67, 76, 73, 69, 78, 84, 95, 69, 82, 82, 79, 82, 32, 108, 105, 110, 101, 32, 116, 111, 111, 32, 108, 111, 110, 103]
inductive Rd' where
  | fault (f : List UInt8)
  | got (r : Rq) (more : Bool) (used : Int)
def secF (s : List UInt8) : Int × Bool := match signedV s with
  | some n => (n, nearB n)
  | none => (0, false)
def Cd.zero : Cd := ⟨0, 0, [], [], 0, 0, false, 0, false, 0, 0, false, false, 0, 0, false⟩
def lineV (b : List UInt8) : List UInt8 × Nat :=
  let l := b.takeWhile (· != 10)
  if l.length < b.length then ((if l.getLast? = some 13 then l.dropLast else l), l.length + 1) else ([], 0)
end Go.Proofs.YtlaagebdbcmckaaGreatDoor
/- TextPieces: a request that is there is the same, whatever stands behind it. No program in sight. -/
namespace Go.Proofs.YtlaagebdbcmckaaGreatDoor
set_option linter.unusedSimpArgs false
set_option linter.unusedVariables false
open Go.Lib
end Go.Proofs.YtlaagebdbcmckaaGreatDoor
/- What b64.Decode and meta.Parse compute. No program in sight. Printed by gen_metaf.py. -/
namespace Go.Proofs.YtlaagebdbcmckaaGreatDoor
set_option linter.unusedSimpArgs false
set_option linter.unusedVariables false
open Go.Lib
def b64L : List UInt8 := [65, 66, 67, 68, 69, 70, 71, 72, 73, 74, 75, 76, 77, 78, 79, 80, 81, 82, 83, 84, 85, 86, 87, 88, 89, 90, 97, 98, 99, 100, 101, 102, 103, 104, 105, 106, 107, 108, 109, 110, 111, 112, 113, 114, 115, 116, 117, 118, 119, 120, 121, 122, 48, 49, 50, 51, 52, 53, 54, 55, 56, 57, 43, 47]
def decStep (c : UInt8) (b n : Nat) (out : List UInt8) : Option (Nat × Nat × List UInt8) :=
  let k := indexByte b64L c
  if k < 0 then none
  else
    let b' := (b * 64 % 4294967296) ||| k.toNat
    if 8 ≤ n + 6 then some (b', n - 2, out ++ [UInt8.ofNat (b' / 2 ^ (n - 2))]) else some (b', n + 6, out)
def decGo : List UInt8 → Nat → Nat → List UInt8 → Option (Nat × Nat × List UInt8)
  | [], b, n, out => some (b, n, out)
  | c :: l, b, n, out => match decStep c b n out with
    | some (b', n', out') => decGo l b' n' out'
    | none => none
def noFill (s : List UInt8) : List UInt8 := (s.reverse.dropWhile (· == 61)).reverse
def decB (s : List UInt8) : Option (List UInt8) :=
  let body := noFill s
  if s.length % 4 ≠ 0 ∨ 2 < s.length - body.length then none
  else match decGo body 0 0 [] with
    | some (b, n, out) => if b % 2 ^ n = 0 then some out else none
    | none => none
structure Mq where
  kind : Int
  cmds : List Cd
  quiet : Bool
  reply : List UInt8
  skip : Int
  close : Bool
  name : List UInt8
  flags : List (List UInt8)
  word : List UInt8
def Mq.zero : Mq := ⟨0, [], false, [], 0, false, [], [], []⟩
def badM (s : List UInt8) (skip : Int) : Mq := ⟨2, [], false, s, skip, false, [], [], []⟩
def m_me : List UInt8 := [109, 101]
def m_mg : List UInt8 := [109, 103]
def m_ms : List UInt8 := [109, 115]
def m_md : List UInt8 := [109, 100]
def m_ma : List UInt8 := [109, 97]
def m_mn : List UInt8 := [109, 110]
def f_token : List UInt8 := [67, 76, 73, 69, 78, 84, 95, 69, 82, 82, 79, 82, 32, 98, 97, 100, 32, 116, 111, 107, 101, 110, 32, 105, 110, 32, 99, 111, 109, 109, 97, 110, 100, 32, 108, 105, 110, 101, 32, 102, 111, 114, 109, 97, 116]
def f_invalid : List UInt8 := [67, 76, 73, 69, 78, 84, 95, 69, 82, 82, 79, 82, 32, 105, 110, 118, 97, 108, 105, 100, 32, 102, 108, 97, 103]
def f_twice : List UInt8 := [67, 76, 73, 69, 78, 84, 95, 69, 82, 82, 79, 82, 32, 100, 117, 112, 108, 105, 99, 97, 116, 101, 32, 102, 108, 97, 103]
def cmd0 (op delta : Int) : Cd := { Cd.zero with op := op, delta := delta, recache := -1 }
def kindM (name : List UInt8) : Cd × List UInt8 :=
  if name = m_me then (cmd0 7 0, [98])
  else if name = m_mg then (cmd0 1 0, [98, 99, 102, 107, 113, 115, 116, 118, 79, 78, 82, 84])
  else if name = m_ms then (cmd0 2 0, [98, 99, 107, 113, 73, 67, 70, 77, 79, 84])
  else if name = m_md then (cmd0 5 0, [98, 107, 113, 73, 67, 79, 84])
  else if name = m_ma then (cmd0 3 1, [98, 99, 107, 113, 116, 118, 67, 68, 74, 77, 78, 79, 84])
  else (cmd0 0 0, [])
def modeM (c : Cd) (s : List UInt8) : Cd × Bool := match s with
  | [x] => if c.op = 3 then
      let i := indexByte [73, 105, 43, 68, 100, 45] x
      ({ c with down := decide (3 ≤ i) }, decide (0 ≤ i))
    else
      let i := indexByte [83, 115, 69, 101, 82, 114, 65, 97, 80, 112] x
      ({ c with mode := if 0 < i.tdiv 2 then i.tdiv 2 else 0 }, decide (0 ≤ i))
  | _ => (c, false)
def numF (s : List UInt8) : Int × Bool := (((parseV s).getD 0 : Nat), (parseV s).isSome)
def setM (c : Cd) (x : UInt8) (s : List UInt8) : Cd × Bool :=
  if x = 67 then ({ c with cas := (numF s).1, hasCas := true }, (numF s).2)
  else if x = 68 then ({ c with delta := (numF s).1 }, (numF s).2)
  else if x = 74 then ({ c with init := (numF s).1 }, (numF s).2)
  else if x = 70 then ({ c with flags := IntKind.u32.wrap (numF s).1 }, (numF s).2 && decide ((numF s).1 < 4294967296))
  else if x = 77 then modeM c s
  else if x = 78 then ({ c with viv := true, vive := (secF s).1 }, (secF s).2)
  else if x = 82 then ({ c with recache := (secF s).1 }, (secF s).2)
  else if x = 84 then ({ c with hasExp := decide (c.op ≠ 2), exp := (secF s).1 }, (secF s).2)
  else if x = 79 then (c, decide (s ≠ []) && decide (s.length ≤ 32))
  else ({ c with inval := c.inval || decide (x = 73) }, decide (s = []))
def allM (allowed : List UInt8) : List (List UInt8) → Cd → List UInt8 → Cd × List UInt8 × List UInt8
  | [], c, seen => (c, [], seen)
  | [] :: _, c, _ => (c, f_invalid, [])
  | (x :: s) :: l, c, seen =>
    if allowed.contains x = false then (c, f_invalid, [])
    else if seen.contains x then (c, f_twice, [])
    else if (setM c x s).2 then allM allowed l (setM c x s).1 (seen ++ [x]) else ((setM c x s).1, f_token, [])
def okM : Option (List UInt8) → Bool
  | some k => keyB k
  | none => false
def flagsM (name : List UInt8) (l : List (List UInt8)) : Cd × List UInt8 × List UInt8 := allM (kindM name).2 l (kindM name).1 []
def keyM (name word : List UInt8) (l : List (List UInt8)) : Option (List UInt8) := if (flagsM name l).2.2.contains 98 then decB word else some word
def wrongM (name word : List UInt8) (l : List (List UInt8)) (size : Nat) : List UInt8 :=
  if (flagsM name l).2.1 ≠ [] then (flagsM name l).2.1
  else if okM (keyM name word l) = false then f_format
  else if 65538 < size then f_large else []
def doneM (name word : List UInt8) (l : List (List UInt8)) (val : List UInt8) : Mq :=
  ⟨1, [{ (flagsM name l).1 with key := (keyM name word l).getD [], val := val }], (flagsM name l).2.2.contains 113, [], 0, false, name, l, word⟩
def restM (name word : List UInt8) (l : List (List UInt8)) (size : Nat) (behind : List UInt8) : Mq × Int × Bool :=
  if wrongM name word l size ≠ [] then (badM (wrongM name word l size) size, 0, false)
  else if behind.length < size then (Mq.zero, 0, true)
  else if 0 < size ∧ (behind.take size).drop (size - 2) ≠ [13, 10] then (badM b_chunk 0, size, false)
  else (doneM name word l (if 0 < size then behind.take (size - 2) else []), size, false)
def readM (name : List UInt8) (w : List (List UInt8)) (behind : List UInt8) : Mq × Int × Bool := match w with
  | [] => (badM f_format 0, 0, false)
  | word :: l => if name = m_ms then (match l with
      | [] => (badM f_format 0, 0, false)
      | z :: l' => if (numF z).2 && decide ((numF z).1 ≤ 1073741824) then restM name word l' ((numF z).1.toNat + 2) behind else (badM f_format 0, 0, false))
    else restM name word l 0 behind
def lineM (n : Nat) (behind : List UInt8) : List (List UInt8) → Mq × Int
  | [] => (badM f_unknown 0, n)
  | name :: w => if (kindM name).2 ≠ [] then
      (if (readM name w behind).2.2 then (Mq.zero, 0) else ((readM name w behind).1, n + (readM name w behind).2.1))
    else if name = m_mn ∧ w = [] then (⟨7, [], false, [], 0, false, m_mn, [], []⟩, n) else (badM f_unknown 0, n)
def mParse (b : List UInt8) : Mq × Int :=
  let s := lineV (b.take 2048)
  if s.2 = 0 then (if b.length < 2048 then (Mq.zero, 0) else ({ badM b_long 0 with close := true }, 2048))
  else lineM s.2 (b.drop s.2) (wordsF (s.1.length + 1) s.1)
end Go.Proofs.YtlaagebdbcmckaaGreatDoor
/- What meta.Reply computes. No program in sight. Printed by gen_metar.py. -/
namespace Go.Proofs.YtlaagebdbcmckaaGreatDoor
set_option linter.unusedSimpArgs false
set_option linter.unusedVariables false
open Go.Lib
def crlf : List UInt8 := [13, 10]
def lineT (ws : List (List UInt8)) : List UInt8 := Lib.join ws [32] ++ crlf
def leftT (x : It) (now : Int) : List UInt8 := if x.exp = 0 then [45, 49] else decDigits (if 0 < x.exp - now then x.exp - now else 0).toNat
def sizeT (x : It) : List UInt8 := decDigits x.val.length
def hasF (r : Mq) (c : UInt8) : Bool := r.flags.any fun f => f.head? == some c
def flagT (r : Mq) (a : An) (now : Int) (much : Bool) : List UInt8 → List (List UInt8)
  | [] => []
  | c :: s =>
    if c = 98 then [[98]]
    else if c = 107 then [107 :: r.word]
    else if c = 79 then [c :: s]
    else if much = false then []
    else if c = 99 then [99 :: decDigits a.it.cas.toNat]
    else if c = 102 then [102 :: decDigits a.it.flags.toNat]
    else if c = 115 then [115 :: sizeT a.it]
    else if c = 116 then [116 :: leftT a.it now]
    else []
def marksT (a : An) (much : Bool) : List (List UInt8) := if much then (if a.w then [[87]] else []) ++ (if a.x then [[88]] else []) ++ (if a.z then [[90]] else []) else []
def toldT (r : Mq) (a : An) (now : Int) (much : Bool) (l : List (List UInt8)) : List UInt8 := lineT (l ++ r.flags.flatMap (flagT r a now much) ++ marksT a much)
def loudT (r : Mq) (s : List UInt8) : List UInt8 := if r.quiet then [] else s
def valueT (r : Mq) (a : An) (now : Int) : List UInt8 := if hasF r 118 then toldT r a now true [[86, 65], sizeT a.it] ++ a.it.val ++ crlf else toldT r a now true [[72, 68]]
def mReply (r : Mq) (a : An) (now : Int) : List UInt8 :=
  if r.kind = 7 then lineT [[77, 78]]
  else if r.kind ≠ 1 then []
  else if a.st = 11 then [83, 69, 82, 86, 69, 82, 95, 69, 82, 82, 79, 82, 32, 111, 98, 106, 101, 99, 116, 32, 116, 111, 111, 32, 108, 97, 114, 103, 101, 32, 102, 111, 114, 32, 99, 97, 99, 104, 101] ++ crlf
  else if a.st = 12 then [83, 69, 82, 86, 69, 82, 95, 69, 82, 82, 79, 82, 32, 111, 117, 116, 32, 111, 102, 32, 109, 101, 109, 111, 114, 121, 32, 115, 116, 111, 114, 105, 110, 103, 32, 111, 98, 106, 101, 99, 116] ++ crlf
  else if a.st = 7 then [67, 76, 73, 69, 78, 84, 95, 69, 82, 82, 79, 82, 32, 99, 97, 110, 110, 111, 116, 32, 105, 110, 99, 114, 101, 109, 101, 110, 116, 32, 111, 114, 32, 100, 101, 99, 114, 101, 109, 101, 110, 116, 32, 110, 111, 110, 45, 110, 117, 109, 101, 114, 105, 99, 32, 118, 97, 108, 117, 101] ++ crlf
  else
    let done := a.st = 2 ∨ a.st = 9
    let err := [69, 82, 82, 79, 82] ++ crlf
    if r.name = m_me then
      (if a.st = 1 then lineT [[77, 69], r.word, [101, 120, 112, 61] ++ leftT a.it now, [99, 97, 115, 61] ++ decDigits a.it.cas.toNat, [115, 105, 122, 101, 61] ++ sizeT a.it]
       else if a.st = 5 then lineT [[69, 78]] else err)
    else if r.name = m_mg then
      (if a.st = 1 then valueT r a now else if a.st = 5 then loudT r (lineT [[69, 78]]) else err)
    else if r.name = m_ms then
      (if done then loudT r (toldT r a now true [[72, 68]])
       else if a.st = 5 then toldT r a now false [[78, 70]]
       else if a.st = 3 then toldT r a now false [[78, 83]]
       else if a.st = 4 then toldT r a now false [[69, 88]] else err)
    else if r.name = m_md then
      (if done then loudT r (toldT r a now true [[72, 68]])
       else if a.st = 5 then loudT r (toldT r a now false [[78, 70]])
       else if a.st = 4 then toldT r a now false [[69, 88]] else err)
    else if r.name = m_ma then
      (if a.st = 6 then (if hasF r 118 then valueT r a now else loudT r (valueT r a now))
       else if a.st = 5 then loudT r (toldT r a now false [[78, 70]])
       else if a.st = 4 then toldT r a now false [[69, 88]] else err)
    else err
end Go.Proofs.YtlaagebdbcmckaaGreatDoor
/- MetaPieces: a request that is there is the same, whatever stands behind it. No program in sight. -/
namespace Go.Proofs.YtlaagebdbcmckaaGreatDoor
set_option linter.unusedSimpArgs false
set_option linter.unusedVariables false
open Go.Lib
theorem restM_pre {name word : List UInt8} {l : List (List UInt8)} {size : Nat} {a r : List UInt8} {q : Mq} {u : Int} (h : restM name word l size a = (q, u, false)) : restM name word l size (a ++ r) = (q, u, false) ∧ 0 ≤ u ∧ u ≤ (a.length : Int) := by
  unfold restM at h ⊢
  by_cases h1 : wrongM name word l size ≠ []
  · rw [if_pos h1] at h ⊢
    simp only [Prod.mk.injEq, and_true] at h
    obtain ⟨rfl, rfl⟩ := h
    exact ⟨rfl, Int.le_refl _, by omega⟩
  rw [if_neg h1] at h ⊢
  by_cases hs : a.length < size
  · rw [if_pos hs] at h; simp at h
  rw [if_neg hs] at h
  have hs' : size ≤ a.length := by omega
  have e1 : (a ++ r).take size = a.take size := List.take_append_of_le_length hs'
  have e2 : (a ++ r).take (size - 2) = a.take (size - 2) := List.take_append_of_le_length (by omega)
  rw [if_neg (by rw [List.length_append]; omega), e1, e2]
  by_cases hc : 0 < size ∧ (a.take size).drop (size - 2) ≠ [13, 10]
  · rw [if_pos hc] at h ⊢
    simp only [Prod.mk.injEq, and_true] at h
    obtain ⟨rfl, rfl⟩ := h
    exact ⟨rfl, by omega, by omega⟩
  · rw [if_neg hc] at h ⊢
    simp only [Prod.mk.injEq, and_true] at h
    obtain ⟨rfl, rfl⟩ := h
    exact ⟨rfl, by omega, by omega⟩
theorem readM_pre {name : List UInt8} {w : List (List UInt8)} {a r : List UInt8} {q : Mq} {u : Int} (h : readM name w a = (q, u, false)) : readM name w (a ++ r) = (q, u, false) ∧ 0 ≤ u ∧ u ≤ (a.length : Int) := by
  unfold readM at h ⊢
  have triv : ∀ {x : Mq}, (x, (0 : Int), false) = (q, u, false) → (x, (0 : Int), false) = (q, u, false) ∧ 0 ≤ u ∧ u ≤ (a.length : Int) := fun {x} h => by
    simp only [Prod.mk.injEq, and_true] at h
    obtain ⟨rfl, rfl⟩ := h
    exact ⟨rfl, Int.le_refl _, by omega⟩
  cases w with
  | nil => exact triv h
  | cons word l =>
    simp only at h ⊢
    by_cases hn : name = m_ms
    · rw [if_pos hn] at h ⊢
      cases l with
      | nil => exact triv h
      | cons z l' =>
        simp only at h ⊢
        split at h
        · rename_i hz
          rw [if_pos hz]
          exact restM_pre h
        · rename_i hz
          rw [if_neg hz]
          exact triv h
    · rw [if_neg hn] at h ⊢
      exact restM_pre h
end Go.Proofs.YtlaagebdbcmckaaGreatDoor
/- What b64.Encode computes, and that Decode undoes it. No program in sight. -/
namespace Go.Proofs.YtlaagebdbcmckaaGreatDoor
set_option linter.unusedSimpArgs false
set_option linter.unusedVariables false
open Go.Lib
def letB (k : Nat) : UInt8 := b64L.getD k 0
def encEm : Nat → Nat → Nat → List UInt8 → Nat × List UInt8
  | 0, _, n, out => (n, out)
  | f + 1, b, n, out => if 6 ≤ n then encEm f b (n - 6) (out ++ [letB (b / 2 ^ (n - 6) % 64)]) else (n, out)
def encGo : List UInt8 → Nat → Nat → List UInt8 → Nat × Nat × List UInt8
  | [], b, n, out => (b, n, out)
  | c :: l, b, n, out => encGo l ((b * 256 % 4294967296) ||| c.toNat) (encEm 3 ((b * 256 % 4294967296) ||| c.toNat) (n + 8) out).1 (encEm 3 ((b * 256 % 4294967296) ||| c.toNat) (n + 8) out).2
def encLast (r : Nat × Nat × List UInt8) : List UInt8 := if 0 < r.2.1 then r.2.2 ++ [letB (r.1 * 2 ^ (6 - r.2.1) % 4294967296 % 64)] else r.2.2
def encB (s : List UInt8) : List UInt8 := encLast (encGo s 0 0 []) ++ List.replicate ((4 - (encLast (encGo s 0 0 [])).length % 4) % 4) 61
def enc4 : List UInt8 → List UInt8
  | x :: y :: z :: l => letB (x.toNat / 4) :: letB (x.toNat % 4 * 16 + y.toNat / 16) :: letB (y.toNat % 16 * 4 + z.toNat / 64) :: letB (z.toNat % 64) :: enc4 l
  | [x, y] => [letB (x.toNat / 4), letB (x.toNat % 4 * 16 + y.toNat / 16), letB (y.toNat % 16 * 4)]
  | [x] => [letB (x.toNat / 4), letB (x.toNat % 4 * 16)]
  | [] => []
theorem or8 (b c : Nat) (hc : c < 256) : (b * 256 % 4294967296) ||| c = b % 16777216 * 256 + c := by
  have h := Nat.shiftLeft_add_eq_or_of_lt (i := 8) (b := c) hc (b % 16777216)
  rw [Nat.shiftLeft_eq] at h
  rw [show b * 256 % 4294967296 = b % 16777216 * 2 ^ 8 by omega, ← h]
theorem or6 (b c : Nat) (hc : c < 64) : (b * 64 % 4294967296) ||| c = b % 67108864 * 64 + c := by
  have h := Nat.shiftLeft_add_eq_or_of_lt (i := 6) (b := c) hc (b % 67108864)
  rw [Nat.shiftLeft_eq] at h
  rw [show b * 64 % 4294967296 = b % 67108864 * 2 ^ 6 by omega, ← h]
theorem lt8 (x : UInt8) : x.toNat < 256 := x.toNat_lt
theorem encGo_0 (x : UInt8) (l : List UInt8) (b : Nat) (out : List UInt8) : encGo (x :: l) b 0 out = encGo l (b % 16777216 * 256 + x.toNat) 2 (out ++ [letB (x.toNat / 4)]) := by
  have hx := lt8 x
  rw [encGo, or8 _ _ hx]
  have e : (b % 16777216 * 256 + x.toNat) / 2 ^ (0 + 8 - 6) % 64 = x.toNat / 4 := by simp only [Nat.zero_add, Nat.reduceSub, Nat.reducePow]; omega
  simp only [encEm, e, show (6 ≤ 0 + 8) = True by simp, if_true, show (6 ≤ 0 + 8 - 6) = False by simp, if_false]
theorem encGo_2 (x : UInt8) (l : List UInt8) (b : Nat) (out : List UInt8) : encGo (x :: l) b 2 out = encGo l (b % 16777216 * 256 + x.toNat) 4 (out ++ [letB (b % 4 * 16 + x.toNat / 16)]) := by
  have hx := lt8 x
  rw [encGo, or8 _ _ hx]
  have e : (b % 16777216 * 256 + x.toNat) / 2 ^ (2 + 8 - 6) % 64 = b % 4 * 16 + x.toNat / 16 := by simp only [Nat.reduceAdd, Nat.reduceSub, Nat.reducePow]; omega
  simp only [encEm, e, show (6 ≤ 2 + 8) = True by simp, if_true, show (6 ≤ 2 + 8 - 6) = False by simp, if_false]
theorem encGo_4 (x : UInt8) (l : List UInt8) (b : Nat) (out : List UInt8) : encGo (x :: l) b 4 out = encGo l (b % 16777216 * 256 + x.toNat) 0 (out ++ [letB (b % 16 * 4 + x.toNat / 64), letB (x.toNat % 64)]) := by
  have hx := lt8 x
  rw [encGo, or8 _ _ hx]
  have e : (b % 16777216 * 256 + x.toNat) / 2 ^ (4 + 8 - 6) % 64 = b % 16 * 4 + x.toNat / 64 := by simp only [Nat.reduceAdd, Nat.reduceSub, Nat.reducePow]; omega
  have e' : (b % 16777216 * 256 + x.toNat) / 2 ^ (4 + 8 - 6 - 6) % 64 = x.toNat % 64 := by simp only [Nat.reduceAdd, Nat.reduceSub, Nat.reducePow]; omega
  simp only [encEm, e, e', show (6 ≤ 4 + 8) = True by simp, if_true, show (6 ≤ 4 + 8 - 6) = True by simp, show (6 ≤ 4 + 8 - 6 - 6) = False by simp, if_false, List.append_assoc, List.cons_append, List.nil_append]
theorem m16 (t y : Nat) : (t * 256 + y) % 16 = y % 16 := by omega
theorem enc_is : ∀ (s : List UInt8) (b : Nat) (out : List UInt8), encLast (encGo s b 0 out) = out ++ enc4 s
  | [], b, out => by simp [encGo, encLast, enc4]
  | [x], b, out => by
    rw [encGo_0, encGo, encLast]
    have hx := lt8 x
    have e : (b % 16777216 * 256 + x.toNat) * 2 ^ (6 - 2) % 4294967296 % 64 = x.toNat % 4 * 16 := by simp only [Nat.reduceSub, Nat.reducePow]; omega
    simp only [e, enc4, show (0 < 2) = True by simp, if_true, List.append_assoc, List.cons_append, List.nil_append]
  | [x, y], b, out => by
    rw [encGo_0, encGo_2, encGo, encLast]
    have hx := lt8 x
    have hy := lt8 y
    have e0 : (b % 16777216 * 256 + x.toNat) % 4 = x.toNat % 4 := by omega
    have e : ((b % 16777216 * 256 + x.toNat) % 16777216 * 256 + y.toNat) * 2 ^ (6 - 4) % 4294967296 % 64 = y.toNat % 16 * 4 := by simp only [Nat.reduceSub, Nat.reducePow]; omega
    simp only [e, e0, enc4, show (0 < 4) = True by simp, if_true, List.append_assoc, List.cons_append, List.nil_append]
  | x :: y :: z :: l, b, out => by
    rw [encGo_0, encGo_2, encGo_4, enc_is l]
    have hx := lt8 x
    have hy := lt8 y
    have e0 : (b % 16777216 * 256 + x.toNat) % 4 = x.toNat % 4 := by omega
    have e1 : ((b % 16777216 * 256 + x.toNat) % 16777216 * 256 + y.toNat) % 16 = y.toNat % 16 := m16 _ _
    simp only [e0, e1, enc4, List.append_assoc, List.cons_append, List.nil_append]
set_option maxRecDepth 8000 in
theorem idx_let : ∀ k < 64, indexByte b64L (letB k) = (k : Int) := by decide +kernel
theorem let_ok : ∀ k < 64, letB k ≠ 61 ∧ letB k ≠ 32 ∧ letB k ≠ 10 ∧ letB k ≠ 13 := by decide +kernel
theorem decGo_0 (k : Nat) (hk : k < 64) (l : List UInt8) (b : Nat) (out : List UInt8) : decGo (letB k :: l) b 0 out = decGo l (b % 67108864 * 64 + k) 6 out := by
  simp only [decGo, decStep, idx_let k hk, show ¬ ((k : Int) < 0) by omega, if_false, Int.toNat_natCast, or6 _ _ hk, show ¬ (8 ≤ 0 + 6) by omega, Nat.zero_add]
theorem decGo_n (n : Nat) (hn : 2 ≤ n) (k : Nat) (hk : k < 64) (l : List UInt8) (b : Nat) (out : List UInt8) (x : UInt8) (hx : (b % 67108864 * 64 + k) / 2 ^ (n - 2) % 256 = x.toNat) : decGo (letB k :: l) b n out = decGo l (b % 67108864 * 64 + k) (n - 2) (out ++ [x]) := by
  have e : UInt8.ofNat ((b % 67108864 * 64 + k) / 2 ^ (n - 2)) = x := by
    apply UInt8.toNat_inj.1; rw [UInt8.toNat_ofNat']; exact hx
  simp only [decGo, decStep, idx_let k hk, show ¬ ((k : Int) < 0) by omega, if_false, Int.toNat_natCast, or6 _ _ hk, show (8 ≤ n + 6) = True by simp; omega, if_true, e]
theorem dec_is : ∀ (s : List UInt8) (b : Nat) (out : List UInt8), ∃ b' n', decGo (enc4 s) b 0 out = some (b', n', out ++ s) ∧ b' % 2 ^ n' = 0
  | [], b, out => ⟨b, 0, by simp [enc4, decGo], by simp [Nat.mod_one]⟩
  | [x], b, out => by
    have hx := lt8 x
    refine ⟨(b % 67108864 * 64 + x.toNat / 4) % 67108864 * 64 + x.toNat % 4 * 16, 4, ?_, ?_⟩
    · rw [enc4, decGo_0 _ (by omega), decGo_n 6 (by omega) _ (by omega) _ _ _ x (by simp only [Nat.reduceSub, Nat.reducePow]; omega), decGo]
    · simp only [Nat.reducePow]; omega
  | [x, y], b, out => by
    have hx := lt8 x
    have hy := lt8 y
    refine ⟨((b % 67108864 * 64 + x.toNat / 4) % 67108864 * 64 + (x.toNat % 4 * 16 + y.toNat / 16)) % 67108864 * 64 + y.toNat % 16 * 4, 2, ?_, ?_⟩
    · rw [enc4, decGo_0 _ (by omega), decGo_n 6 (by omega) _ (by omega) _ _ _ x (by simp only [Nat.reduceSub, Nat.reducePow]; omega), decGo_n 4 (by omega) _ (by omega) _ _ _ y (by simp only [Nat.reduceSub, Nat.reducePow]; omega), decGo, List.append_assoc]; rfl
    · simp only [Nat.reducePow]; omega
  | x :: y :: z :: l, b, out => by
    have hx := lt8 x
    have hy := lt8 y
    have hz := lt8 z
    rw [enc4, decGo_0 _ (by omega), decGo_n 6 (by omega) _ (by omega) _ _ _ x (by simp only [Nat.reduceSub, Nat.reducePow]; omega), decGo_n 4 (by omega) _ (by omega) _ _ _ y (by simp only [Nat.reduceSub, Nat.reducePow]; omega), decGo_n 2 (by omega) _ (by omega) _ _ _ z (by simp only [Nat.reduceSub, Nat.reducePow]; omega)]
    obtain ⟨b', n', h1, h2⟩ := dec_is l _ (out ++ [x] ++ [y] ++ [z])
    exact ⟨b', n', by rw [h1]; simp, h2⟩
theorem enc4_mem : ∀ (s : List UInt8), ∀ c ∈ enc4 s, c ≠ 61 ∧ c ≠ 32 ∧ c ≠ 10 ∧ c ≠ 13
  | [], c, h => by simp [enc4] at h
  | [x], c, h => by
    have hx := lt8 x
    simp only [enc4, List.mem_cons, List.not_mem_nil, or_false] at h
    rcases h with rfl | rfl <;> exact let_ok _ (by omega)
  | [x, y], c, h => by
    have hx := lt8 x
    have hy := lt8 y
    simp only [enc4, List.mem_cons, List.not_mem_nil, or_false] at h
    rcases h with rfl | rfl | rfl <;> exact let_ok _ (by omega)
  | x :: y :: z :: l, c, h => by
    have hx := lt8 x
    have hy := lt8 y
    have hz := lt8 z
    simp only [enc4, List.mem_cons] at h
    rcases h with rfl | rfl | rfl | rfl | h
    · exact let_ok _ (by omega)
    · exact let_ok _ (by omega)
    · exact let_ok _ (by omega)
    · exact let_ok _ (by omega)
    · exact enc4_mem l c h
theorem enc4_len : ∀ (s : List UInt8), (enc4 s).length = (4 * s.length + 2) / 3
  | [] => rfl
  | [x] => by simp [enc4]
  | [x, y] => by simp [enc4]
  | x :: y :: z :: l => by simp only [enc4, List.length_cons, enc4_len l]; omega
theorem encB_is (s : List UInt8) : encB s = enc4 s ++ List.replicate ((4 - (enc4 s).length % 4) % 4) 61 := by
  unfold encB; rw [enc_is, List.nil_append]
theorem noFill_is (s : List UInt8) (m : Nat) : noFill (enc4 s ++ List.replicate m 61) = enc4 s := by
  unfold noFill
  rw [List.reverse_append, List.reverse_replicate, List.dropWhile_append_of_pos (by intro a ha; rw [List.eq_of_mem_replicate ha]; decide)]
  cases hr : (enc4 s).reverse with
  | nil => have : enc4 s = [] := by simpa using hr
           rw [this]; rfl
  | cons c l =>
    have hc := enc4_mem s c (by rw [← List.mem_reverse, hr]; simp)
    rw [List.dropWhile_cons_of_neg (by simp [hc.1]), ← hr, List.reverse_reverse]
theorem dec_enc (s : List UInt8) : decB (encB s) = some s := by
  obtain ⟨b', n', h1, h2⟩ := dec_is s 0 []
  have hl := enc4_len s
  rw [encB_is]
  unfold decB
  simp only [noFill_is, List.length_append, List.length_replicate, h1, List.nil_append, h2, if_true]
  rw [if_neg]
  omega
theorem encB_len (s : List UInt8) : (encB s).length = (s.length + 2) / 3 * 4 := by
  have hl := enc4_len s
  rw [encB_is, List.length_append, List.length_replicate]; omega
end Go.Proofs.YtlaagebdbcmckaaGreatDoor
/- What b64.Decode takes is what b64.Encode wrote. No program in sight. -/
namespace Go.Proofs.YtlaagebdbcmckaaGreatDoor
set_option linter.unusedSimpArgs false
set_option linter.unusedVariables false
open Go.Lib
set_option maxRecDepth 8000 in
theorem idx_back' : ∀ n < 256, indexByte b64L (UInt8.ofNat n) < 0 ∨ ((indexByte b64L (UInt8.ofNat n)).toNat < 64 ∧ UInt8.ofNat n = letB (indexByte b64L (UInt8.ofNat n)).toNat) := by decide +kernel
theorem idx_back (c : UInt8) : indexByte b64L c < 0 ∨ ∃ k, k < 64 ∧ c = letB k := by
  have h := idx_back' c.toNat c.toNat_lt
  rw [UInt8.ofNat_toNat] at h
  rcases h with h | h
  · exact .inl h
  · exact .inr ⟨_, h.1, h.2⟩
theorem decGo_let {c : UInt8} {l : List UInt8} {b n : Nat} {out : List UInt8} {r : Nat × Nat × List UInt8} (h : decGo (c :: l) b n out = some r) : ∃ k, k < 64 ∧ c = letB k := by
  rcases idx_back c with hc | hc
  · simp [decGo, decStep, hc] at h
  · exact hc
theorem toN (n : Nat) (h : n < 256) : (UInt8.ofNat n).toNat = n := by rw [UInt8.toNat_ofNat']; exact Nat.mod_eq_of_lt h
theorem g1 (k1 k2 : Nat) (h1 : k1 < 64) (h2 : k2 < 64) : (UInt8.ofNat (k1 * 4 + k2 / 16)).toNat = k1 * 4 + k2 / 16 := toN _ (by omega)
theorem g2 (k2 k3 : Nat) (h2 : k2 < 64) (h3 : k3 < 64) : (UInt8.ofNat (k2 % 16 * 16 + k3 / 4)).toNat = k2 % 16 * 16 + k3 / 4 := toN _ (by omega)
theorem g3 (k3 k4 : Nat) (h3 : k3 < 64) (h4 : k4 < 64) : (UInt8.ofNat (k3 % 4 * 64 + k4)).toNat = k3 % 4 * 64 + k4 := toN _ (by omega)
theorem dec_back' : ∀ (s : List UInt8) (b : Nat) (out : List UInt8) (r : Nat × Nat × List UInt8), decGo s b 0 out = some r → s.length % 4 ≠ 1 → r.1 % 2 ^ r.2.1 = 0 → ∃ t, r.2.2 = out ++ t ∧ s = enc4 t
  | [], b, out, r, h, _, _ => ⟨[], by simp only [decGo, Option.some.injEq] at h; rw [← h]; simp, rfl⟩
  | [c], b, out, r, h, hl, _ => absurd rfl hl
  | [c, d], b, out, r, h, _, hz => by
    obtain ⟨k1, h1, rfl⟩ := decGo_let h
    rw [decGo_0 _ h1] at h
    obtain ⟨k2, h2, rfl⟩ := decGo_let h
    have e1 := g1 k1 k2 h1 h2
    rw [decGo_n 6 (by omega) _ h2 _ _ _ (UInt8.ofNat (k1 * 4 + k2 / 16)) (by rw [e1]; simp only [Nat.reduceSub, Nat.reducePow]; omega), decGo] at h
    simp only [Option.some.injEq] at h
    subst h
    simp only [Nat.reduceSub, Nat.reducePow] at hz
    refine ⟨[UInt8.ofNat (k1 * 4 + k2 / 16)], rfl, ?_⟩
    rw [enc4, e1, show (k1 * 4 + k2 / 16) / 4 = k1 by omega, show (k1 * 4 + k2 / 16) % 4 * 16 = k2 by omega]
  | [c, d, e], b, out, r, h, _, hz => by
    obtain ⟨k1, h1, rfl⟩ := decGo_let h
    rw [decGo_0 _ h1] at h
    obtain ⟨k2, h2, rfl⟩ := decGo_let h
    have e1 := g1 k1 k2 h1 h2
    rw [decGo_n 6 (by omega) _ h2 _ _ _ (UInt8.ofNat (k1 * 4 + k2 / 16)) (by rw [e1]; simp only [Nat.reduceSub, Nat.reducePow]; omega)] at h
    obtain ⟨k3, h3, rfl⟩ := decGo_let h
    have e2 := g2 k2 k3 h2 h3
    rw [decGo_n 4 (by omega) _ h3 _ _ _ (UInt8.ofNat (k2 % 16 * 16 + k3 / 4)) (by rw [e2]; simp only [Nat.reduceSub, Nat.reducePow]; omega), decGo] at h
    simp only [Option.some.injEq] at h
    subst h
    simp only [Nat.reduceSub, Nat.reducePow] at hz
    refine ⟨[UInt8.ofNat (k1 * 4 + k2 / 16), UInt8.ofNat (k2 % 16 * 16 + k3 / 4)], by simp, ?_⟩
    rw [enc4, e1, e2, show (k1 * 4 + k2 / 16) / 4 = k1 by omega, show (k1 * 4 + k2 / 16) % 4 * 16 + (k2 % 16 * 16 + k3 / 4) / 16 = k2 by omega, show (k2 % 16 * 16 + k3 / 4) % 16 * 4 = k3 by omega]
  | c :: d :: e :: f :: l, b, out, r, h, hl, hz => by
    obtain ⟨k1, h1, rfl⟩ := decGo_let h
    rw [decGo_0 _ h1] at h
    obtain ⟨k2, h2, rfl⟩ := decGo_let h
    have e1 := g1 k1 k2 h1 h2
    rw [decGo_n 6 (by omega) _ h2 _ _ _ (UInt8.ofNat (k1 * 4 + k2 / 16)) (by rw [e1]; simp only [Nat.reduceSub, Nat.reducePow]; omega)] at h
    obtain ⟨k3, h3, rfl⟩ := decGo_let h
    have e2 := g2 k2 k3 h2 h3
    rw [decGo_n 4 (by omega) _ h3 _ _ _ (UInt8.ofNat (k2 % 16 * 16 + k3 / 4)) (by rw [e2]; simp only [Nat.reduceSub, Nat.reducePow]; omega)] at h
    obtain ⟨k4, h4, rfl⟩ := decGo_let h
    have e3 := g3 k3 k4 h3 h4
    rw [decGo_n 2 (by omega) _ h4 _ _ _ (UInt8.ofNat (k3 % 4 * 64 + k4)) (by rw [e3]; simp only [Nat.reduceSub, Nat.reducePow]; omega)] at h
    obtain ⟨t, ht, hs⟩ := dec_back' l _ _ r h (by intro e; apply hl; simp only [List.length_cons]; omega) hz
    refine ⟨UInt8.ofNat (k1 * 4 + k2 / 16) :: UInt8.ofNat (k2 % 16 * 16 + k3 / 4) :: UInt8.ofNat (k3 % 4 * 64 + k4) :: t, by rw [ht]; simp, ?_⟩
    rw [enc4, e1, e2, e3, ← hs, show (k1 * 4 + k2 / 16) / 4 = k1 by omega, show (k1 * 4 + k2 / 16) % 4 * 16 + (k2 % 16 * 16 + k3 / 4) / 16 = k2 by omega, show (k2 % 16 * 16 + k3 / 4) % 16 * 4 + (k3 % 4 * 64 + k4) / 64 = k3 by omega, show (k3 % 4 * 64 + k4) % 64 = k4 by omega]
theorem noFill_pad (s : List UInt8) : s = noFill s ++ List.replicate (s.length - (noFill s).length) 61 := by
  have h := List.takeWhile_append_dropWhile (p := (· == (61 : UInt8))) (l := s.reverse)
  have hr : s = noFill s ++ (s.reverse.takeWhile (· == 61)).reverse := by
    have := congrArg List.reverse h
    rw [List.reverse_append, List.reverse_reverse] at this
    exact this.symm
  have hl : (s.reverse.takeWhile (· == (61 : UInt8))).reverse = List.replicate (s.length - (noFill s).length) 61 := by
    apply List.eq_replicate_iff.2
    constructor
    · have := congrArg List.length hr
      rw [List.length_append] at this
      omega
    · intro x hx
      have := List.all_eq_true.1 (List.all_takeWhile (p := (· == (61 : UInt8))) (l := s.reverse)) x (List.mem_reverse.1 hx)
      simpa using this
  rw [hl] at hr
  exact hr
theorem dec_back {s t : List UInt8} (h : decB s = some t) : s = encB t := by
  unfold decB at h
  simp only at h
  split at h
  · cases h
  rename_i hc
  have hp := noFill_pad s
  have hlen : (noFill s).length ≤ s.length := by
    have := congrArg List.length hp
    rw [List.length_append] at this; omega
  cases hd : decGo (noFill s) 0 0 [] with
  | none => rw [hd] at h; cases h
  | some r =>
    obtain ⟨b, n, out⟩ := r
    rw [hd] at h
    simp only at h
    split at h
    · rename_i hz
      simp only [Option.some.injEq] at h
      subst h
      obtain ⟨t, ht, hs⟩ := dec_back' _ _ _ _ hd (by omega) hz
      simp only [List.nil_append] at ht
      subst ht
      rw [encB_is, ← hs]
      have : s.length - (noFill s).length = (4 - (noFill s).length % 4) % 4 := by omega
      rw [← this]
      exact hp
    · cases h
theorem decB_iff (s t : List UInt8) : decB s = some t ↔ s = encB t := ⟨dec_back, fun h => by rw [h]; exact dec_enc t⟩
end Go.Proofs.YtlaagebdbcmckaaGreatDoor
