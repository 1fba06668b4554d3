/- Plain laws on decimal texts: when a text is some digits, the number that it says, and how the library's reader and its own reference answer. No program in sight. -/
import Derived.Lib.SlTrimSet
import Derived.Lib.ParseIntB
import Derived.Lib.ItoaNum
import Derived.WalkKit
import Derived.Lib.Bytealg
import Derived.Test.YtfmpdbngpknmaaaDoorBA
import Derived.Laws.CopyRow
import Derived.Laws.AppendOwn
import Derived.Lib.SliceRun
import Derived.Test.YtfmpdbngpknmaaaDoorChecked
import Derived.Test.YtfmpdbngpknmaaaDoorCShelfC
import Derived.WalkSmall
import Derived.WalkSpells
import Derived.LoopTactic
import Derived.BigQuiet
import Derived.Deep.QuietTactic
import Derived.Deep.MidRow
import Derived.Outline
namespace Go.Proofs.YtfmpdbngpknmaaaDoor
set_option linter.unusedSimpArgs false
set_option linter.unusedVariables false

def dgt (c : UInt8) : Bool := decide (48 ≤ c.toNat) && decide (c.toNat ≤ 57)
def allDgt (l : List UInt8) : Bool := l.all dgt
/-- the number that digits say, behind a beginning -/
def valFrom (a : Nat) (l : List UInt8) : Nat := l.foldl (fun n c => 10 * n + (c.toNat - 48)) a
def valOf (l : List UInt8) : Nat := valFrom 0 l
theorem valFrom_cons (a : Nat) (c : UInt8) (l : List UInt8) : valFrom a (c :: l) = valFrom (10 * a + (c.toNat - 48)) l := by unfold valFrom; rw [List.foldl_cons]
theorem valFrom_app (a : Nat) (l m : List UInt8) : valFrom a (l ++ m) = valFrom (valFrom a l) m := by unfold valFrom; rw [List.foldl_append]
theorem valFrom_ge (l : List UInt8) : ∀ a, a ≤ valFrom a l := by
  induction l with
  | nil => intro a; exact Nat.le_refl _
  | cons c l ih => intro a; rw [valFrom_cons]; exact Nat.le_trans (by omega) (ih _)

theorem drop_nil (p : UInt8 → Bool) (l : List UInt8) : l.dropWhile p = [] ↔ l.all p = true := by
  induction l with
  | nil => simp
  | cons a l ih =>
    rw [List.dropWhile_cons]
    by_cases h : p a = true
    · rw [if_pos h, ih, List.all_cons, h, Bool.true_and]
    · rw [if_neg h]; simp [h]
theorem all_drop (p : UInt8 → Bool) (l : List UInt8) : (l.dropWhile p).all p = l.all p := by
  induction l with
  | nil => rfl
  | cons a l ih =>
    rw [List.dropWhile_cons]
    by_cases h : p a = true
    · rw [if_pos h, ih, List.all_cons, h, Bool.true_and]
    · rw [if_neg h]
theorem trimS_nil (l cs : List UInt8) : (Go.Lib.trimS l cs = []) ↔ l.all (cs.contains ·) = true := by
  unfold Go.Lib.trimS Go.Lib.trimLeftS Go.Lib.trimRightS
  rw [drop_nil, List.all_reverse, all_drop, List.all_reverse]
def tenDgts : List UInt8 := [48, 49, 50, 51, 52, 53, 54, 55, 56, 57]
theorem ten_dgt (c : UInt8) : tenDgts.contains c = dgt c := by
  unfold tenDgts dgt
  rw [Bool.eq_iff_iff]
  simp only [List.contains_eq_mem, List.mem_cons, List.mem_nil_iff, or_false, decide_eq_true_eq, Bool.and_eq_true]
  constructor
  · rintro (rfl | rfl | rfl | rfl | rfl | rfl | rfl | rfl | rfl | rfl) <;> decide
  · intro ⟨h1, h2⟩
    have : c.toNat = 48 ∨ c.toNat = 49 ∨ c.toNat = 50 ∨ c.toNat = 51 ∨ c.toNat = 52 ∨ c.toNat = 53 ∨ c.toNat = 54 ∨ c.toNat = 55 ∨ c.toNat = 56 ∨ c.toNat = 57 := by omega
    have e : ∀ k : UInt8, c.toNat = k.toNat → c = k := fun k h => UInt8.toNat_inj.1 h
    rcases this with h | h | h | h | h | h | h | h | h | h
    · exact .inl (e 48 h)
    · exact .inr (.inl (e 49 h))
    · exact .inr (.inr (.inl (e 50 h)))
    · exact .inr (.inr (.inr (.inl (e 51 h))))
    · exact .inr (.inr (.inr (.inr (.inl (e 52 h)))))
    · exact .inr (.inr (.inr (.inr (.inr (.inl (e 53 h))))))
    · exact .inr (.inr (.inr (.inr (.inr (.inr (.inl (e 54 h)))))))
    · exact .inr (.inr (.inr (.inr (.inr (.inr (.inr (.inl (e 55 h))))))))
    · exact .inr (.inr (.inr (.inr (.inr (.inr (.inr (.inr (.inl (e 56 h)))))))))
    · exact .inr (.inr (.inr (.inr (.inr (.inr (.inr (.inr (.inr (e 57 h)))))))))
theorem trim_digits (l : List UInt8) : (Go.Lib.trimS l tenDgts).isEmpty = allDgt l := by
  rw [Bool.eq_iff_iff, List.isEmpty_iff, trimS_nil]
  unfold allDgt
  have : (fun c => tenDgts.contains c) = dgt := funext ten_dgt
  rw [this]

/-- the library's reader over digits alone -/
theorem parseUintM_dgts (M : Nat) (hM : M ≤ 18446744073709551615) : ∀ (l : List UInt8) (a : Nat), allDgt l = true → a ≤ M →
    (valFrom a l ≤ M ∧ Go.Lib.parseUintM M a l = .ok (valFrom a l)) ∨ (M < valFrom a l ∧ Go.Lib.parseUintM M a l = .range) := by
  intro l
  induction l with
  | nil => intro a _ ha; exact .inl ⟨ha, rfl⟩
  | cons c l ih =>
    intro a hd ha
    simp only [allDgt, List.all_cons, Bool.and_eq_true] at hd
    obtain ⟨hc, hl⟩ := hd
    simp only [dgt, Bool.and_eq_true, decide_eq_true_eq] at hc
    unfold Go.Lib.parseUintM
    rw [if_pos hc]
    rw [valFrom_cons, show 10 * a + (c.toNat - 48) = a * 10 + (c.toNat - 48) by omega]
    by_cases h1 : 1844674407370955162 ≤ a
    · rw [if_pos h1]
      have := valFrom_ge l (a * 10 + (c.toNat - 48))
      exact .inr ⟨by omega, rfl⟩
    · rw [if_neg h1]
      by_cases h2 : M < a * 10 + (c.toNat - 48)
      · rw [if_pos h2]
        have := valFrom_ge l (a * 10 + (c.toNat - 48))
        exact .inr ⟨by omega, rfl⟩
      · rw [if_neg h2]
        exact ih _ hl (by omega)
theorem parseUintB_dgts (l : List UInt8) (hne : l ≠ []) (hd : allDgt l = true) :
    (valOf l < 18446744073709551616 ∧ Go.Lib.parseUintB 64 l = .ok (valOf l)) ∨ (18446744073709551616 ≤ valOf l ∧ Go.Lib.parseUintB 64 l = .range) := by
  unfold Go.Lib.parseUintB
  rw [if_neg hne]
  rcases parseUintM_dgts (2 ^ 64 - 1) (by decide) l 0 hd (by omega) with ⟨h, e⟩ | ⟨h, e⟩
  · exact .inl ⟨by unfold valOf; omega, e⟩
  · exact .inr ⟨by unfold valOf; omega, e⟩

/-- the document's Parse: some digits, twenty at most, below 2 to the 64th -/
def parseV (l : List UInt8) : Option Nat := if l ≠ [] ∧ l.length ≤ 20 ∧ allDgt l = true ∧ valOf l < 18446744073709551616 then some (valOf l) else none

theorem allDgt_take (l : List UInt8) (k : Nat) (h : allDgt l = true) : allDgt (l.take k) = true := by
  unfold allDgt at *
  rw [List.all_eq_true] at *
  exact fun x hx => h x (List.mem_of_mem_take hx)
theorem take_one (l : List UInt8) (k : Nat) (h : k < l.length) : l.take (k + 1) = l.take k ++ [l[k]] := by rw [List.take_add_one, List.getElem?_eq_getElem h]; rfl
theorem valOf_snoc (l : List UInt8) (c : UInt8) : valOf (l ++ [c]) = 10 * valOf l + (c.toNat - 48) := by unfold valOf; rw [valFrom_app]; rfl
theorem valOf_take_le (l : List UInt8) (k : Nat) : valOf (l.take k) ≤ valOf l := by
  have h := List.take_append_drop k l
  rw [show valOf l = valFrom (valOf (l.take k)) (l.drop k) from by unfold valOf; rw [← valFrom_app, h]]
  exact valFrom_ge _ _
theorem allDgt_snoc (l : List UInt8) (c : UInt8) : allDgt (l ++ [c]) = (allDgt l && dgt c) := by simp [allDgt]
theorem parseV_bad (l : List UInt8) (k : Nat) (h : k < l.length) (hc : dgt l[k] = false) : parseV l = none := by
  unfold parseV
  rw [if_neg]
  rintro ⟨_, _, h3, _⟩
  unfold allDgt at h3
  rw [List.all_eq_true] at h3
  rw [h3 _ (List.getElem_mem h)] at hc
  cases hc
theorem parseV_over (l : List UInt8) (k : Nat) (h : 18446744073709551616 ≤ valOf (l.take k)) : parseV l = none := by
  unfold parseV
  rw [if_neg]
  rintro ⟨_, _, _, h4⟩
  have := valOf_take_le l k
  omega
theorem parseV_all (l : List UInt8) (h0 : l ≠ []) (h1 : l.length ≤ 20) (h2 : allDgt l = true) (h3 : valOf l < 18446744073709551616) : parseV l = some (valOf l) := by
  unfold parseV; rw [if_pos ⟨h0, h1, h2, h3⟩]
theorem parseV_len (l : List UInt8) (h : l.length < 1 ∨ 20 < l.length) : parseV l = none := by
  unfold parseV
  rw [if_neg]
  rintro ⟨h0, h1, _, _⟩
  have : l.length ≠ 0 := fun e => h0 (List.eq_nil_of_length_eq_zero e)
  omega
end Go.Proofs.YtfmpdbngpknmaaaDoor
/- Plain laws on decimal texts, the second part: a number's text says it; texts are ordered as numbers are. No program in sight. -/
namespace Go.Proofs.YtfmpdbngpknmaaaDoor
set_option linter.unusedSimpArgs false
set_option linter.unusedVariables false
open Go.Lib

theorem byte48 (k : Nat) (h : k < 10) : (UInt8.ofNat (48 + k)).toNat = 48 + k := by rw [UInt8.toNat_ofNat']; omega
theorem dec_step (u : Nat) (h : 10 ≤ u) : decDigits u = decDigits (u / 10) ++ [UInt8.ofNat (48 + u % 10)] := by rw [decDigits, dif_neg (by omega)]
theorem valOf_dec (u : Nat) : valOf (decDigits u) = u := by
  induction u using Nat.strongRecOn with
  | _ u ih =>
    by_cases h : u < 10
    · rw [decDigits_one h]
      show 10 * 0 + ((UInt8.ofNat (48 + u)).toNat - 48) = u
      rw [byte48 u h]; omega
    · rw [dec_step u (by omega), valOf_snoc, ih (u / 10) (by omega), byte48 _ (by omega)]; omega
theorem dgt_of (k : Nat) (h : k < 10) : dgt (UInt8.ofNat (48 + k)) = true := by
  unfold dgt; rw [byte48 k h]; simp; omega
theorem allDgt_dec (u : Nat) : allDgt (decDigits u) = true := by
  induction u using Nat.strongRecOn with
  | _ u ih =>
    by_cases h : u < 10
    · rw [decDigits_one h]; show (dgt _ && true) = true; rw [dgt_of u h]; rfl
    · rw [dec_step u (by omega), allDgt_snoc, ih (u / 10) (by omega), dgt_of _ (by omega)]; rfl
theorem dec_len (u : Nat) : 1 ≤ (decDigits u).length := by
  rw [decDigits_length]
  by_cases h : u < 10
  · rw [nDigits_small h]; omega
  · rw [nDigits_big h]; omega
theorem dec_len_le (u : Nat) (h : u < 18446744073709551616) : (decDigits u).length ≤ 20 := by
  rw [decDigits_length]
  by_cases h1 : 1 ≤ u
  · have h2 := numDigits_eq u h1 h; split at h2 <;> omega
  · rw [show u = 0 by omega, nDigits_small (by omega)]; omega
theorem parseV_dec (u : Nat) (h : u < 18446744073709551616) : parseV (decDigits u) = some u := by
  have h1 := dec_len u
  rw [parseV_all _ (by intro e; rw [e] at h1; simp at h1) (dec_len_le u h) (allDgt_dec u) (by rw [valOf_dec]; exact h), valOf_dec]
theorem dec_inj {u v : Nat} (h : decDigits u = decDigits v) : u = v := by rw [← valOf_dec u, h, valOf_dec]

theorem len_mono {u v : Nat} (h : u ≤ v) : (decDigits u).length ≤ (decDigits v).length := by
  induction v using Nat.strongRecOn generalizing u with
  | _ v ih =>
    by_cases hu : u < 10
    · rw [decDigits_one hu]; exact dec_len v
    · rw [dec_step u (by omega), dec_step v (by omega), List.length_append, List.length_append]
      have := ih (v / 10) (by omega) (u := u / 10) (by omega)
      simp; omega

theorem valFrom_lt : ∀ (l : List UInt8) (a : Nat), allDgt l = true → valFrom a l < (a + 1) * 10 ^ l.length := by
  intro l
  induction l with
  | nil => intro a _; show a < (a + 1) * 1; omega
  | cons c l ih =>
    intro a hd
    simp only [allDgt, List.all_cons, Bool.and_eq_true] at hd
    obtain ⟨hc, hl⟩ := hd
    simp only [dgt, Bool.and_eq_true, decide_eq_true_eq] at hc
    rw [valFrom_cons, List.length_cons, Nat.pow_succ]
    have h1 := ih (10 * a + (c.toNat - 48)) hl
    have h2 : (10 * a + (c.toNat - 48) + 1) * 10 ^ l.length ≤ (10 * (a + 1)) * 10 ^ l.length := Nat.mul_le_mul (by omega) (Nat.le_refl _)
    have h3 : (10 * (a + 1)) * 10 ^ l.length = (a + 1) * (10 ^ l.length * 10) := by rw [Nat.mul_comm 10 (a + 1), Nat.mul_assoc, Nat.mul_comm 10]
    omega
theorem valFrom_base : ∀ (l : List UInt8) (a b : Nat), valFrom (a + b) l = a * 10 ^ l.length + valFrom b l := by
  intro l
  induction l with
  | nil => intro a b; show a + b = a * 1 + b; omega
  | cons c l ih =>
    intro a b
    rw [valFrom_cons, valFrom_cons, List.length_cons, Nat.pow_succ, show 10 * (a + b) + (c.toNat - 48) = 10 * a + (10 * b + (c.toNat - 48)) by omega, ih]
    rw [Nat.mul_comm 10 a, Nat.mul_assoc, Nat.mul_comm 10]
/-- texts of one length, digits alone: as the numbers that they say -/
theorem less_iff : ∀ (l m : List UInt8), l.length = m.length → allDgt l = true → allDgt m = true → (Op.bytesLess l m = true ↔ valOf l < valOf m) := by
  intro l
  induction l with
  | nil =>
    intro m h _ _
    have : m = [] := List.eq_nil_of_length_eq_zero h.symm
    subst this
    simp [Op.bytesLess]
  | cons c l ih =>
    intro m h hl hm
    cases m with
    | nil => cases h
    | cons d m =>
      simp only [allDgt, List.all_cons, Bool.and_eq_true] at hl hm
      obtain ⟨hc, hl⟩ := hl
      obtain ⟨hd, hm⟩ := hm
      simp only [dgt, Bool.and_eq_true, decide_eq_true_eq] at hc hd
      have hlen : l.length = m.length := by simpa using h
      have i1 := ih m hlen hl hm
      have e1 : valOf (c :: l) = (c.toNat - 48) * 10 ^ l.length + valOf l := by
        unfold valOf; rw [valFrom_cons, show 10 * 0 + (c.toNat - 48) = (c.toNat - 48) + 0 by omega, valFrom_base]
      have e2 : valOf (d :: m) = (d.toNat - 48) * 10 ^ l.length + valOf m := by
        unfold valOf; rw [valFrom_cons, show 10 * 0 + (d.toNat - 48) = (d.toNat - 48) + 0 by omega, valFrom_base, hlen]
      have b1 := valFrom_lt l 0 hl
      have b2 := valFrom_lt m 0 hm
      rw [← hlen] at b2
      change valOf l < _ at b1
      change valOf m < _ at b2
      rw [e1, e2]
      generalize 10 ^ l.length = T at *
      rw [Nat.zero_add, Nat.one_mul] at b1 b2
      unfold Op.bytesLess
      rw [Bool.or_eq_true, Bool.and_eq_true, decide_eq_true_eq, beq_iff_eq, i1, UInt8.lt_iff_toNat_lt, ← UInt8.toNat_inj]
      rcases Nat.lt_trichotomy c.toNat d.toNat with h1 | h1 | h1
      · have h2 : (c.toNat - 48 + 1) * T ≤ (d.toNat - 48) * T := Nat.mul_le_mul (by omega) (Nat.le_refl _)
        rw [Nat.add_mul, Nat.one_mul] at h2
        constructor
        · intro _; omega
        · intro _; exact .inl h1
      · rw [h1]
        constructor
        · rintro (h2 | ⟨_, h2⟩) <;> omega
        · intro h2; exact .inr ⟨rfl, by omega⟩
      · have h2 : (d.toNat - 48 + 1) * T ≤ (c.toNat - 48) * T := Nat.mul_le_mul (by omega) (Nat.le_refl _)
        rw [Nat.add_mul, Nat.one_mul] at h2
        constructor
        · rintro (h3 | ⟨h3, _⟩) <;> omega
        · intro h3; omega

theorem order_num (u v : Nat) : decide (u < v) = (decide ((decDigits u).length < (decDigits v).length) || (decide ((decDigits u).length = (decDigits v).length) && Op.bytesLess (decDigits u) (decDigits v))) := by
  rw [Bool.eq_iff_iff, Bool.or_eq_true, Bool.and_eq_true, decide_eq_true_eq, decide_eq_true_eq, decide_eq_true_eq]
  constructor
  · intro h
    have h1 := len_mono (u := u) (v := v) (by omega)
    by_cases h2 : (decDigits u).length = (decDigits v).length
    · exact .inr ⟨h2, (less_iff _ _ h2 (allDgt_dec u) (allDgt_dec v)).2 (by rw [valOf_dec, valOf_dec]; exact h)⟩
    · exact .inl (by omega)
  · rintro (h | ⟨h, h2⟩)
    · refine Classical.byContradiction fun hn => ?_
      have h1 := len_mono (u := v) (v := u) (by omega)
      omega
    · have := (less_iff _ _ h (allDgt_dec u) (allDgt_dec v)).1 h2
      rwa [valOf_dec, valOf_dec] at this
end Go.Proofs.YtfmpdbngpknmaaaDoor
/- The model's plain functions: what Apply computes of a state and a command. No program in sight. -/
namespace Go.Proofs.YtfmpdbngpknmaaaDoor
set_option linter.unusedSimpArgs false
set_option linter.unusedVariables false
open Go.Lib

/-- an item -/
structure It where
  key : List UInt8
  flags : Int
  val : List UInt8
  exp : Int
  cas : Int
  last : Int
  stale : Bool
  won : Bool
/-- a state -/
structure St where
  items : List It
  cas : Int
  flush : Int
/-- a command -/
structure Cd where
  op : Int
  mode : Int
  key : List UInt8
  val : List UInt8
  flags : Int
  exp : Int
  hasExp : Bool
  cas : Int
  hasCas : Bool
  delta : Int
  init : Int
  down : Bool
  viv : Bool
  vive : Int
  recache : Int
  inval : Bool
/-- an answer -/
structure An where
  st : Int
  it : It
  num : Int
  w : Bool
  x : Bool
  z : Bool

def It.zero : It := ⟨[], 0, [], 0, 0, 0, false, false⟩
def St.zero : St := ⟨[], 0, 0⟩
def An.zero : An := ⟨0, It.zero, 0, false, false, false⟩
def toldF (n : Int) : An := ⟨n, It.zero, 0, false, false, false⟩

def keyB (k : List UInt8) : Bool := !k.isEmpty && (k.all fun c => decide (32 < c.toNat) && decide (c.toNat ≠ 127)) && decide (k.length ≤ 250)
def nearB (n : Int) : Bool := decide (-1099511627776 ≤ n) && decide (n ≤ 1099511627776)
def mayB (c : Cd) : Bool := decide (1 ≤ c.op) && decide (c.op ≤ 7) && decide (0 ≤ c.mode) && decide (c.mode ≤ 4) && decide (c.val.length ≤ 65536) && (nearB c.exp && nearB c.vive && nearB c.recache) && (decide (c.op = 6) || keyB c.key)
def momF (now e : Int) : Int := if e = 0 ∨ 2592000 < e then e else if e < 0 then now else now + e
def goneB (now : Int) (x : It) : Bool := !decide (x.exp = 0) && decide (x.exp ≤ now)
def addV (l : List UInt8) (d : Int) : Option (List UInt8) := match parseV l with | some n => some (decDigits (IntKind.u64.wrap ((n : Int) + d)).toNat) | none => none
def subV (l : List UInt8) (d : Int) : Option (List UInt8) := match parseV l with | some n => some (decDigits ((n : Int) - min (n : Int) d).toNat) | none => none

/-- where a key's item stands, or would -/
def atF (l : List It) (k : List UInt8) : Nat := (l.takeWhile fun x => Op.bytesLess x.key k).length
def isF (l : List It) (k : List UInt8) : Bool := match l[atF l k]? with | some x => x.key == k | none => false
def itF (l : List It) (i : Nat) : It := l.getD i It.zero
def putF (X : St) (i : Nat) (is : Bool) (x : It) : St × It :=
  ({ X with cas := IntKind.u64.wrap (X.cas + 1), items := if is then X.items.set i { x with cas := IntKind.u64.wrap (X.cas + 1) } else X.items.take i ++ { x with cas := IntKind.u64.wrap (X.cas + 1) } :: X.items.drop i },
   { x with cas := IntKind.u64.wrap (X.cas + 1) })
def otherB (c : Cd) (x : It) : Bool := c.hasCas && !decide (x.cas = c.cas)

def soonB (now : Int) (c : Cd) (x : It) : Bool := decide (0 ≤ c.recache) && !decide (x.exp = 0) && decide (x.exp - now < c.recache)
def winB (now : Int) (c : Cd) (x : It) : Bool := !x.won && (x.stale || soonB now c x)
def gotF (now : Int) (c : Cd) (x : It) : It := { x with won := x.won || winB now c x, last := now, exp := if c.hasExp then momF now c.exp else x.exp }
def getF (X : St) (now : Int) (c : Cd) (i : Nat) (is : Bool) : St × An :=
  if is then ({ X with items := X.items.set i (gotF now c (itF X.items i)) }, ⟨1, gotF now c (itF X.items i), 0, winB now c (itF X.items i), (itF X.items i).stale, (itF X.items i).won⟩)
  else if c.viv then ((putF X i false ⟨c.key, 0, [], momF now c.vive, 0, 0, false, true⟩).1, ⟨1, (putF X i false ⟨c.key, 0, [], momF now c.vive, 0, 0, false, true⟩).2, 0, true, false, false⟩)
  else (X, toldF 5)

/-- what is stored, ahead of its token -/
def newF (now : Int) (c : Cd) (x : It) (stale : Bool) : It :=
  if c.mode = 3 then { x with val := x.val ++ c.val, stale := stale, won := false }
  else if c.mode = 4 then { x with val := c.val ++ x.val, stale := stale, won := false }
  else ⟨c.key, c.flags, c.val, momF now c.exp, 0, 0, stale, false⟩
def fitsB (most : Int) (x : It) : Bool := decide ((x.key.length : Int) + (x.val.length : Int) ≤ most)
def storeF (X : St) (now : Int) (c : Cd) (most : Int) (i : Nat) (is : Bool) : St × An :=
  if (decide (c.mode = 1) && is || decide (1 < c.mode) && !is) = true then (X, toldF 3)
  else if (c.hasCas && !is) = true then (X, toldF 5)
  else if (is && otherB c (itF X.items i) && !(c.inval && decide (c.cas < (itF X.items i).cas))) = true then (X, toldF 4)
  else if fitsB most (newF now c (itF X.items i) (is && otherB c (itF X.items i))) then
    ((putF X i is (newF now c (itF X.items i) (is && otherB c (itF X.items i)))).1, ⟨2, (putF X i is (newF now c (itF X.items i) (is && otherB c (itF X.items i)))).2, 0, false, false, false⟩)
  else (X, toldF 11)

def numPut (X : St) (most : Int) (i : Nat) (is : Bool) (x : It) : St × An :=
  if fitsB most x then ((putF X i is x).1, ⟨6, (putF X i is x).2, (((parseV x.val).getD 0 : Nat) : Int), false, false, false⟩) else (X, toldF 11)
def mathF (X : St) (now : Int) (c : Cd) (most : Int) (i : Nat) (is : Bool) : St × An :=
  if is then
    if otherB c (itF X.items i) then (X, toldF 4)
    else match (if c.down then subV (itF X.items i).val c.delta else addV (itF X.items i).val c.delta) with
      | none => (X, toldF 7)
      | some v => numPut X most i true { itF X.items i with val := v, exp := if c.hasExp then momF now c.exp else (itF X.items i).exp }
  else if c.viv then numPut X most i false ⟨c.key, 0, decDigits c.init.toNat, momF now c.vive, 0, 0, false, false⟩
  else (X, toldF 5)

def goneF (now : Int) (c : Cd) (x : It) : It := { x with stale := true, won := false, exp := if c.hasExp then momF now c.exp else x.exp }
def removeF (X : St) (now : Int) (c : Cd) (i : Nat) (is : Bool) : St × An :=
  if is then
    if otherB c (itF X.items i) then (X, toldF 4)
    else if c.inval then ((putF X i true (goneF now c (itF X.items i))).1, ⟨9, (putF X i true (goneF now c (itF X.items i))).2, 0, false, false, false⟩)
    else ({ X with items := X.items.eraseIdx i }, toldF 9)
  else (X, toldF 5)

def flushF (X : St) (now : Int) (c : Cd) : St × An :=
  if momF now c.exp ≤ now then ({ X with items := [], flush := 0 }, toldF 10) else ({ X with flush := momF now c.exp }, toldF 10)

def touchF (X : St) (now : Int) (c : Cd) (i : Nat) (is : Bool) : St × An :=
  if is then ({ X with items := X.items.set i { itF X.items i with exp := momF now c.exp } }, ⟨8, { itF X.items i with exp := momF now c.exp }, 0, false, false, false⟩) else (X, toldF 5)
def lookF (X : St) (i : Nat) (is : Bool) : St × An := if is then (X, ⟨1, itF X.items i, 0, false, false, false⟩) else (X, toldF 5)

def liveF (X : St) (now : Int) : St :=
  if X.flush ≠ 0 ∧ X.flush ≤ now then { X with items := [], flush := 0 } else { X with items := X.items.filter fun x => !goneB now x }
def doF (X : St) (now : Int) (c : Cd) (most : Int) (i : Nat) (is : Bool) : St × An :=
  if c.op = 1 then getF X now c i is
  else if c.op = 2 then storeF X now c most i is
  else if c.op = 3 then mathF X now c most i is
  else if c.op = 4 then touchF X now c i is
  else if c.op = 7 then lookF X i is
  else if c.op = 5 then removeF X now c i is
  else flushF X now c
def applyF (X : St) (now : Int) (c : Cd) (most : Int) : St × An :=
  if mayB c = true ∧ 1 ≤ now ∧ now ≤ 1099511627776 then doF (liveF X now) now c most (atF (liveF X now).items c.key) (isF (liveF X now).items c.key)
  else (St.zero, An.zero)
end Go.Proofs.YtfmpdbngpknmaaaDoor
/- Plain laws on keys and their order, and on where a key stands in a sorted list of items. No program in sight. -/
namespace Go.Proofs.YtfmpdbngpknmaaaDoor
set_option linter.unusedSimpArgs false
set_option linter.unusedVariables false
open Go.Lib Go.Op

theorem u8_lt_irrefl (a : UInt8) : ¬ a < a := by rw [UInt8.lt_iff_toNat_lt]; omega
theorem less_irrefl : ∀ a : List UInt8, bytesLess a a = false
  | [] => rfl
  | c :: a => by
    have h := less_irrefl a
    simp [bytesLess, h]
theorem less_trans : ∀ {a b c : List UInt8}, bytesLess a b = true → bytesLess b c = true → bytesLess a c = true
  | [], [], _, h, _ => by simp [bytesLess] at h
  | [], _ :: _, [], _, h => by simp [bytesLess] at h
  | [], _ :: _, _ :: _, _, _ => by simp [bytesLess]
  | _ :: _, [], _, h, _ => by simp [bytesLess] at h
  | _ :: _, _ :: _, [], _, h => by simp [bytesLess] at h
  | x :: a, y :: b, z :: c, h1, h2 => by
    simp only [bytesLess, Bool.or_eq_true, Bool.and_eq_true, decide_eq_true_eq, beq_iff_eq, UInt8.lt_iff_toNat_lt] at h1 h2 ⊢
    rcases h1 with h1 | ⟨rfl, h1⟩
    · rcases h2 with h2 | ⟨rfl, _⟩
      · exact .inl (by omega)
      · exact .inl h1
    · rcases h2 with h2 | ⟨rfl, h2⟩
      · exact .inl h2
      · exact .inr ⟨rfl, less_trans h1 h2⟩
theorem less_total : ∀ (a b : List UInt8), bytesLess a b = false → bytesLess b a = false → a = b
  | [], [], _, _ => rfl
  | [], _ :: _, h, _ => by simp [bytesLess] at h
  | _ :: _, [], _, h => by simp [bytesLess] at h
  | x :: a, y :: b, h1, h2 => by
    simp only [bytesLess, Bool.or_eq_false_iff, Bool.and_eq_false_iff, decide_eq_false_iff_not, beq_eq_false_iff_ne, UInt8.lt_iff_toNat_lt] at h1 h2
    have e : x = y := UInt8.toNat_inj.1 (by omega)
    subst e
    rw [less_total a b (by simpa using h1.2) (by simpa using h2.2)]
theorem less_asymm {a b : List UInt8} (h : bytesLess a b = true) : bytesLess b a = false := by
  refine Bool.eq_false_iff.2 fun h2 => ?_
  have := less_trans h h2
  rw [less_irrefl] at this; cases this
theorem cmp_lt : ∀ (a b : List UInt8), compareBytes a b < 0 ↔ bytesLess a b = true
  | [], [] => by simp [compareBytes, bytesLess]
  | [], _ :: _ => by simp [compareBytes, bytesLess]
  | _ :: _, [] => by simp [compareBytes, bytesLess]
  | x :: a, y :: b => by
    have ih := cmp_lt a b
    simp only [compareBytes, bytesLess]
    by_cases h : x < y
    · simp [h]
    · rw [if_neg h]
      by_cases h2 : y < x
      · rw [if_pos h2]
        have hne : ¬ x = y := fun e => by subst e; exact h h2
        simp [h, hne]
      · rw [if_neg h2]
        have e : x = y := by
          rw [UInt8.lt_iff_toNat_lt] at h h2
          exact UInt8.toNat_inj.1 (by omega)
        subst e
        simp [ih]
theorem cmp_eq : ∀ (a b : List UInt8), compareBytes a b = 0 ↔ a = b
  | [], [] => by simp [compareBytes]
  | [], _ :: _ => by simp [compareBytes]
  | _ :: _, [] => by simp [compareBytes]
  | x :: a, y :: b => by
    have ih := cmp_eq a b
    simp only [compareBytes]
    by_cases h : x < y
    · rw [if_pos h]
      constructor
      · intro h'; omega
      · intro e; cases e; exact absurd h (u8_lt_irrefl _)
    · rw [if_neg h]
      by_cases h2 : y < x
      · rw [if_pos h2]
        constructor
        · intro h'; omega
        · intro e; cases e; exact absurd h2 (u8_lt_irrefl _)
      · rw [if_neg h2, ih]
        have e : x = y := by
          rw [UInt8.lt_iff_toNat_lt] at h h2
          exact UInt8.toNat_inj.1 (by omega)
        subst e
        simp

/-- items by rising keys -/
def Sorted (l : List It) : Prop := l.Pairwise fun a b => bytesLess a.key b.key = true
theorem Sorted.get {l : List It} (h : Sorted l) {i j : Nat} {x y : It} (hi : l[i]? = some x) (hj : l[j]? = some y) (hij : i < j) : bytesLess x.key y.key = true := by
  obtain ⟨h1, rfl⟩ := List.getElem?_eq_some_iff.1 hi
  obtain ⟨h2, rfl⟩ := List.getElem?_eq_some_iff.1 hj
  exact List.pairwise_iff_getElem.1 h i j h1 h2 hij
theorem Sorted.filter {l : List It} (h : Sorted l) (p : It → Bool) : Sorted (l.filter p) := List.Pairwise.filter p h
theorem Sorted.nil : Sorted [] := List.Pairwise.nil

/-- a place that parts the keys below k from the others is the one -/
theorem atF_of_part {l : List It} {k : List UInt8} {p : Nat} (hp : p ≤ l.length) (h1 : ∀ j x, j < p → l[j]? = some x → bytesLess x.key k = true) (h2 : ∀ x, l[p]? = some x → bytesLess x.key k = false) : atF l k = p := by
  unfold atF
  induction l generalizing p with
  | nil => simp at hp; subst hp; rfl
  | cons a l ih =>
    cases p with
    | zero =>
      have := h2 a rfl
      rw [List.takeWhile_cons, if_neg (by simp [this])]
      rfl
    | succ p =>
      have := h1 0 a (by omega) rfl
      rw [List.takeWhile_cons, if_pos this, List.length_cons]
      rw [ih (p := p) (by simpa using hp) (fun j x hj hx => h1 (j + 1) x (by omega) (by simpa using hx)) (fun x hx => h2 x (by simpa using hx))]
theorem atF_le (l : List It) (k : List UInt8) : atF l k ≤ l.length := (List.takeWhile_sublist _).length_le
theorem atF_below {l : List It} {k : List UInt8} {j : Nat} {x : It} (hj : j < atF l k) (hx : l[j]? = some x) : bytesLess x.key k = true := by
  unfold atF at hj
  have h1 : (l.takeWhile fun x => bytesLess x.key k)[j]? = some x := by
    have hpre := List.takeWhile_prefix (fun x : It => bytesLess x.key k) (l := l)
    obtain ⟨t, ht⟩ := hpre
    rw [← ht, List.getElem?_append_left hj] at hx
    exact hx
  have h2 := List.mem_of_getElem? h1
  have h3 := List.all_takeWhile (l := l) (p := fun x : It => bytesLess x.key k)
  exact List.all_eq_true.1 h3 x h2
theorem atF_at {l : List It} {k : List UInt8} {x : It} (hx : l[atF l k]? = some x) : bytesLess x.key k = false := by
  unfold atF at hx
  induction l with
  | nil => simp at hx
  | cons a l ih =>
    by_cases h : bytesLess a.key k = true
    · rw [List.takeWhile_cons, if_pos h] at hx
      exact ih (by simpa using hx)
    · rw [List.takeWhile_cons, if_neg h] at hx
      simp at hx; subst hx; simpa using h
theorem isF_iff {l : List It} {k : List UInt8} : isF l k = true ↔ ∃ x, l[atF l k]? = some x ∧ x.key = k := by
  unfold isF
  cases h : l[atF l k]? with
  | none => simp
  | some x => simp
theorem isF_lt {l : List It} {k : List UInt8} (h : isF l k = true) : atF l k < l.length := by
  obtain ⟨x, hx, _⟩ := isF_iff.1 h
  exact (List.getElem?_eq_some_iff.1 hx).1
theorem itF_of {l : List It} {i : Nat} {x : It} (h : l[i]? = some x) : itF l i = x := by
  unfold itF; rw [List.getD_eq_getElem?_getD, h]; rfl
theorem itF_key {l : List It} {k : List UInt8} (h : isF l k = true) : (itF l (atF l k)).key = k := by
  obtain ⟨x, hx, hk⟩ := isF_iff.1 h
  rw [itF_of hx]; exact hk

/-- an item in another one's place, of the same key -/
theorem Sorted.set {l : List It} (h : Sorted l) {i : Nat} {x y : It} (hx : l[i]? = some x) (hk : y.key = x.key) : Sorted (l.set i y) := by
  refine List.pairwise_iff_getElem.2 fun a b ha hb hab => ?_
  rw [List.length_set] at ha hb
  have g := fun (c : Nat) (hc : c < l.length) => (show ((l.set i y)[c]'(by rw [List.length_set]; exact hc)).key = (l[c]).key by
    rw [List.getElem_set]
    split
    · rename_i e; subst e
      rw [hk]; congr 1
      exact (Option.some.inj ((List.getElem?_eq_getElem hc).symm.trans hx)).symm
    · rfl)
  rw [g a ha, g b hb]
  exact List.pairwise_iff_getElem.1 h a b ha hb hab
theorem Sorted.erase {l : List It} (h : Sorted l) (i : Nat) : Sorted (l.eraseIdx i) := List.Pairwise.sublist (List.eraseIdx_sublist l i) h
theorem Sorted.insert {l : List It} (h : Sorted l) {y : It} (hn : isF l y.key = false) : Sorted (l.take (atF l y.key) ++ y :: l.drop (atF l y.key)) := by
  refine List.pairwise_append.2 ⟨List.Pairwise.sublist (List.take_sublist _ _) h, List.pairwise_cons.2 ⟨?_, List.Pairwise.sublist (List.drop_sublist _ _) h⟩, ?_⟩
  · intro b hb
    obtain ⟨j, hj⟩ := List.mem_iff_getElem?.1 hb
    rw [List.getElem?_drop] at hj
    cases hx : l[atF l y.key]? with
    | none => rw [List.getElem?_eq_none_iff] at hx; have := (List.getElem?_eq_some_iff.1 hj).1; omega
    | some x =>
      have h1 := atF_at hx
      have h2 : bytesLess y.key x.key = true := by
        refine Decidable.byContradiction fun hc => ?_
        have e := less_total _ _ h1 (by simpa using hc)
        have : isF l y.key = true := isF_iff.2 ⟨x, hx, e⟩
        rw [hn] at this; cases this
      rcases Nat.eq_zero_or_pos j with rfl | hp
      · rw [Nat.add_zero, hx] at hj; cases hj; exact h2
      · exact less_trans h2 (h.get hx hj (by omega))
  · intro a ha b hb
    obtain ⟨j, hj⟩ := List.mem_iff_getElem?.1 ha
    have hjl : j < atF l y.key := by
      have := (List.getElem?_eq_some_iff.1 hj).1
      rw [List.length_take] at this; omega
    rw [List.getElem?_take_of_lt hjl] at hj
    have h1 := atF_below hjl hj
    rcases List.mem_cons.1 hb with rfl | hb
    · exact h1
    · obtain ⟨i, hi⟩ := List.mem_iff_getElem?.1 hb
      rw [List.getElem?_drop] at hi
      exact h.get hj hi (by omega)
end Go.Proofs.YtfmpdbngpknmaaaDoor
/- Plain laws of applyF at states of one item at most. No program in sight. -/
namespace Go.Proofs.YtfmpdbngpknmaaaDoor
set_option linter.unusedSimpArgs false
set_option linter.unusedVariables false

def one (x : It) (cas : Int) : St := ⟨[x], cas, 0⟩
def none' (cas : Int) : St := ⟨[], cas, 0⟩
/-- the command may be done at that moment -/
def okB (now : Int) (c : Cd) : Prop := mayB c = true ∧ 1 ≤ now ∧ now ≤ 1099511627776
theorem atF_one (x : It) : atF [x] x.key = 0 := by simp [atF, less_irrefl]
theorem isF_one (x : It) : isF [x] x.key = true := by simp [isF, atF_one]
theorem live_nil (cas now : Int) : liveF (none' cas) now = none' cas := by simp [liveF, none']
theorem live_one {x : It} {cas now : Int} (h : goneB now x = false) : liveF (one x cas) now = one x cas := by simp [liveF, one, h]
theorem live_gone {x : It} {cas now : Int} (h : goneB now x = true) : liveF (one x cas) now = none' cas := by simp [liveF, one, none', h]
theorem app_nil {cas now : Int} {c : Cd} {most : Int} (h : okB now c) : applyF (none' cas) now c most = doF (none' cas) now c most 0 false := by
  unfold applyF; rw [if_pos (show mayB c = true ∧ 1 ≤ now ∧ now ≤ 1099511627776 from h), live_nil]; rfl
theorem app_one {x : It} {cas now : Int} {c : Cd} {most : Int} (h : okB now c) (hg : goneB now x = false) (hk : c.key = x.key) : applyF (one x cas) now c most = doF (one x cas) now c most 0 true := by
  unfold applyF; rw [if_pos (show mayB c = true ∧ 1 ≤ now ∧ now ≤ 1099511627776 from h), live_one hg, hk]
  show doF (one x cas) now c most (atF [x] x.key) (isF [x] x.key) = _
  rw [atF_one, isF_one]
theorem app_gone {x : It} {cas now : Int} {c : Cd} {most : Int} (h : okB now c) (hg : goneB now x = true) : applyF (one x cas) now c most = doF (none' cas) now c most 0 false := by
  unfold applyF; rw [if_pos (show mayB c = true ∧ 1 ≤ now ∧ now ≤ 1099511627776 from h), live_gone hg]; rfl
theorem app_bad {X : St} {now : Int} {c : Cd} {most : Int} (h : ¬ okB now c) : applyF X now c most = (St.zero, An.zero) := by unfold applyF; rw [if_neg (show ¬ (mayB c = true ∧ 1 ≤ now ∧ now ≤ 1099511627776) from h)]
end Go.Proofs.YtfmpdbngpknmaaaDoor
/- Rows of structs in memory: what the builtins copy, clear and append do to a row that is known whole; items as cells. -/
namespace Go.Proofs.YtfmpdbngpknmaaaDoor
set_option linter.unusedSimpArgs false
set_option linter.unusedVariables false
open Go.RowKit
variable {P : Program}

/-- vs laid over a row from o on -/
def over (cur : Array Value) (o : Nat) (vs : List Value) : Array Value := (cur.toList.take o ++ vs ++ cur.toList.drop (o + vs.length)).toArray
theorem over_size (cur : Array Value) (o : Nat) (vs : List Value) (h : o + vs.length ≤ cur.size) : (over cur o vs).size = cur.size := by
  unfold over; simp; omega
theorem over_list (cur : Array Value) (o : Nat) (vs : List Value) : (over cur o vs).toList = cur.toList.take o ++ vs ++ cur.toList.drop (o + vs.length) := rfl

/-- copy(d, s), k elements of size cells each, into a row known whole -/
theorem run_copy_own (w : World) (dT sT ty e : TypeId) (i : TypeInfo) (size : Nat) (hu : P.underlying dT = some (.slice e)) (hi : P.info? e = some i) (hs : i.size = size)
    (g o : Nat) (cur : Array Value) (hg : w.heap[g]? = some (.cells cur e (0, 0))) (dLen dCap : Nat) (a : Addr) (sLen sCap k : Nat) (hk : Nat.min sLen dLen = k) (cs : List Value) (hl : cs.length = k * size)
    (hsrc : ∀ j v, cs[j]? = some v → w.cell? (a.add j) = some v) (hfit : o + cs.length ≤ cur.size) (h1 : ∀ v ∈ cs, v.oneCell' = true) :
    (Builtin.copy_ #[dT, sT] ty #[.slice (some ⟨g, o, none⟩) dLen dCap, .slice (some a) sLen sCap]).run P w = .ok (goInt k) (w.setRow g (over cur o cs)) := by
  have hf := run_firstCells_some (P := P) (w := w) size k a sLen sCap cs hl hsrc
  have hst := run_storeCells_at P g o e cs 0 cur w hg (by simpa using hfit) h1
  simp only [Nat.add_zero] at hst
  subst hs
  simp [Builtin.copy_, run_underlying hu, Builtin.lenOf, sizeOf, typeInfo, hi, hk, hf, hst, over]

theorem zeroCells_len (z : Array Value) (n : Nat) : (Builtin.zeroCells z n).toList.length = n * z.size := by simp [Builtin.zeroCells]
theorem zeroCells_one (z : Array Value) (n : Nat) (h : ∀ v ∈ z.toList, v.oneCell' = true) : ∀ v ∈ (Builtin.zeroCells z n).toList, v.oneCell' = true := by
  intro v hv
  simp only [Builtin.zeroCells, Array.toList_map, List.mem_map, Array.toList_range, List.mem_range] at hv
  obtain ⟨i, hi, rfl⟩ := hv
  have hz : 0 < z.size := by
    rcases Nat.eq_zero_or_pos z.size with h0 | h0
    · rw [h0, Nat.mul_zero] at hi; omega
    · exact h0
  have hm := Nat.mod_lt i hz
  rw [getElem!_pos z (i % z.size) hm]
  exact h _ (by simp)

/-- clear(s), s a part of a row known whole -/
theorem run_clear_own (w : World) (t ty e : TypeId) (z : Value) (hu : P.underlying t = some (.slice e)) (hz : ∀ w, (zeroValue e).run P w = .ok z w) (h1 : ∀ v ∈ z.cells.toList, v.oneCell' = true)
    (g o : Nat) (cur : Array Value) (hg : w.heap[g]? = some (.cells cur e (0, 0))) (n c : Nat) (hfit : o + n * z.cells.size ≤ cur.size) :
    (Builtin.clear_ #[t] ty #[.slice (some ⟨g, o, none⟩) n c]).run P w = .ok (.tuple #[]) (w.setRow g (over cur o (Builtin.zeroCells z.cells n).toList)) := by
  have hst := run_storeCells_at P g o e (Builtin.zeroCells z.cells n).toList 0 cur w hg (by rw [zeroCells_len]; simpa using hfit) (zeroCells_one _ _ h1)
  simp only [Nat.add_zero] at hst
  cases n with
  | zero =>
    have e0 : (Builtin.zeroCells z.cells 0).toList = [] := List.length_eq_zero_iff.1 (by rw [zeroCells_len, Nat.zero_mul])
    have e1 : w.setRow g (over cur o (Builtin.zeroCells z.cells 0).toList) = w := by
      rw [e0]
      unfold over
      simp only [List.append_nil, List.length_nil, Nat.add_zero, List.take_append_drop, Array.toArray_toList]
      exact setRow_self w g cur e (0, 0) hg
    rw [e1]
    simp [Builtin.clear_, run_underlying hu]
  | succ m => simp [Builtin.clear_, run_underlying hu, hz, hst, over]

/-! ### items as cells -/
def It.cells (x : It) : List Value := [.string ⟨x.key.toArray⟩, .int .u32 x.flags, .string ⟨x.val.toArray⟩, .int .i64 x.exp, .int .u64 x.cas, .int .i64 x.last, .bool x.stale, .bool x.won]
def flat (l : List It) : List Value := l.flatMap It.cells
theorem It.cells_len (x : It) : x.cells.length = 8 := rfl
theorem It.cells_one (x : It) : ∀ v ∈ x.cells, v.oneCell' = true := by
  intro v hv; simp only [It.cells, List.mem_cons, List.not_mem_nil, or_false] at hv
  rcases hv with rfl | rfl | rfl | rfl | rfl | rfl | rfl | rfl <;> rfl
theorem flat_nil : flat [] = [] := rfl
theorem flat_cons (x : It) (l : List It) : flat (x :: l) = x.cells ++ flat l := by simp [flat]
theorem flat_app (l m : List It) : flat (l ++ m) = flat l ++ flat m := by simp [flat]
theorem flat_len (l : List It) : (flat l).length = l.length * 8 := by
  induction l with
  | nil => rfl
  | cons x l ih => rw [flat_cons, List.length_append, ih, It.cells_len, List.length_cons]; omega
theorem flat_one (l : List It) : ∀ v ∈ flat l, v.oneCell' = true := by
  intro v hv
  obtain ⟨x, _, hx⟩ := List.mem_flatMap.1 hv
  exact x.cells_one v hx
theorem flat_take (l : List It) (i : Nat) : (flat l).take (i * 8) = flat (l.take i) := by
  induction l generalizing i with
  | nil => simp [flat_nil]
  | cons x l ih =>
    cases i with
    | zero => simp [flat_nil]
    | succ i =>
      rw [flat_cons, List.take_succ_cons, flat_cons, List.take_append, It.cells_len, ← ih i, show (i + 1) * 8 - 8 = i * 8 by omega, List.take_of_length_le (by rw [It.cells_len]; omega)]
theorem flat_drop (l : List It) (i : Nat) : (flat l).drop (i * 8) = flat (l.drop i) := by
  induction l generalizing i with
  | nil => simp [flat_nil]
  | cons x l ih =>
    cases i with
    | zero => simp
    | succ i =>
      rw [flat_cons, List.drop_succ_cons, List.drop_append, It.cells_len, ← ih i, show (i + 1) * 8 - 8 = i * 8 by omega, List.drop_of_length_le (by rw [It.cells_len]; omega), List.nil_append]
theorem flat_get (l : List It) (i : Nat) (x : It) (h : l[i]? = some x) (j : Nat) (hj : j < 8) : (flat l)[i * 8 + j]? = x.cells[j]? := by
  have h1 : (flat l)[i * 8 + j]? = ((flat l).drop (i * 8))[j]? := by rw [List.getElem?_drop]
  rw [h1, flat_drop]
  obtain ⟨hi, rfl⟩ := List.getElem?_eq_some_iff.1 h
  rw [List.drop_eq_getElem_cons hi, flat_cons, List.getElem?_append_left (by rw [It.cells_len]; exact hj)]

/-- a row known whole, of which the first elements are xs: what lies where -/
structure Items (w : World) (g cap : Nat) (xs : List It) (R : List Value) : Prop where
  heap : w.heap[g]? = some (.cells (flat xs ++ R).toArray 31 (0, 0))
  fit : xs.length * 8 + R.length = cap * 8
  big : cap ≤ maxLen

variable {w w' : World} {g cap : Nat} {xs : List It} {R : List Value}
theorem Items.le (h : Items w g cap xs R) : xs.length ≤ cap := by have := h.fit; omega
theorem Items.lt (h : Items w g cap xs R) : g < w.heap.size := (Array.getElem?_eq_some_iff.1 h.heap).1
theorem Items.cell (h : Items w g cap xs R) (j : Nat) : w.cell? ⟨g, j, none⟩ = (flat xs ++ R)[j]? := by
  rw [cell_of_row w g j _ _ _ h.heap]; simp
theorem Items.frozen (h : Items w g cap xs R) (j : Nat) : w.frozen? ⟨g, j, none⟩ = false := by
  simp [World.frozen?, h.heap]
theorem Items.at (h : Items w g cap xs R) {i : Nat} {x : It} (hi : xs[i]? = some x) (j : Nat) (hj : j < 8) : w.cell? ⟨g, i * 8 + j, none⟩ = x.cells[j]? := by
  have hl := (List.getElem?_eq_some_iff.1 hi).1
  rw [h.cell, List.getElem?_append_left (by rw [flat_len]; omega), flat_get xs i x hi j hj]
theorem Items.kept (h : Items w g cap xs R) (hk : w'.heap[g]? = w.heap[g]?) : Items w' g cap xs R := ⟨hk.trans h.heap, h.fit, h.big⟩
theorem Items.below (h : Items w g cap xs R) (hb : Below w.heap.size w w') : Items w' g cap xs R := h.kept (hb.block g h.lt)
theorem Items.own (h : Items w g cap xs R) {base : Nat} (hb : base ≤ g) : w.ownsRow base 31 8 (.slice (some ⟨g, 0, none⟩) xs.length cap) xs.length (flat xs) :=
  ⟨flat_len xs, .inr ⟨g, cap, _, rfl, hb, h.heap, h.le, h.big, by rw [List.size_toArray, List.length_append, flat_len]; exact h.fit, by
    rw [List.toList_toArray, List.take_append_of_le_length (by rw [flat_len]; omega), List.take_of_length_le (by rw [flat_len]; omega)]⟩⟩
theorem Items.of_own {base : Nat} {v : Value} (h : w.ownsRow base 31 8 v xs.length (flat xs)) : (v = .slice none 0 0 ∧ xs = []) ∨ ∃ g cap R, v = .slice (some ⟨g, 0, none⟩) xs.length cap ∧ base ≤ g ∧ Items w g cap xs R := by
  obtain ⟨_, ⟨hv, hn⟩ | ⟨g, cap, cur, hv, hb, hh, hle, hbig, hsz, ht⟩⟩ := h
  · exact .inl ⟨hv, List.length_eq_zero_iff.1 hn⟩
  · refine .inr ⟨g, cap, cur.toList.drop (xs.length * 8), hv, hb, ?_, ?_, hbig⟩
    · rw [← ht, List.take_append_drop]; exact hh
    · have h2 : cur.toList.length = cap * 8 := hsz
      have h3 : xs.length ≤ cap := hle
      show xs.length * 8 + (cur.toList.drop (xs.length * 8)).length = cap * 8
      rw [List.length_drop]; omega
/-- the row overwritten -/
theorem Items.over (h : Items w g cap xs R) {ys : List It} {R' : List Value} {o : Nat} {vs : List Value} (he : (flat xs ++ R).take o ++ vs ++ (flat xs ++ R).drop (o + vs.length) = flat ys ++ R') (hf : ys.length * 8 + R'.length = cap * 8) :
    Items (w.setRow g (over (flat xs ++ R).toArray o vs)) g cap ys R' := by
  refine ⟨?_, hf, h.big⟩
  rw [← he]
  exact setRow_heap w g _ _ _ _ h.heap
end Go.Proofs.YtfmpdbngpknmaaaDoor
/- The model's world in memory, and its small functions: told, moment, item, other, and the two closures. -/
namespace Go.Proofs.YtfmpdbngpknmaaaDoor
set_option linter.unusedSimpArgs false
set_option linter.unusedVariables false
open Go.RowKit

/-- an answer's cells -/
def anA (a : An) : Array Value := #[.int .i64 a.st, .string ⟨a.it.key.toArray⟩, .int .u32 a.it.flags, .string ⟨a.it.val.toArray⟩, .int .i64 a.it.exp, .int .u64 a.it.cas, .int .i64 a.it.last, .bool a.it.stale, .bool a.it.won, .int .u64 a.num, .bool a.w, .bool a.x, .bool a.z]
/-- a command's cells -/
def cdA (c : Cd) : Array Value := #[.int .i64 c.op, .int .i64 c.mode, .string ⟨c.key.toArray⟩, .string ⟨c.val.toArray⟩, .int .u32 c.flags, .int .i64 c.exp, .bool c.hasExp, .int .u64 c.cas, .bool c.hasCas, .int .u64 c.delta, .int .u64 c.init, .bool c.down, .bool c.viv, .int .i64 c.vive, .int .i64 c.recache, .bool c.inval]
/-- an item's cells -/
def itA (x : It) : Array Value := #[.string ⟨x.key.toArray⟩, .int .u32 x.flags, .string ⟨x.val.toArray⟩, .int .i64 x.exp, .int .u64 x.cas, .int .i64 x.last, .bool x.stale, .bool x.won]
theorem itA_list (x : It) : (itA x).toList = x.cells := rfl
theorem itA_of (x : It) : x.cells.toArray = itA x := rfl
/-- the cells of what a command is worked on by -/
def woA (v : Value) (X : St) (now : Int) (c : Cd) (most : Int) (i : Nat) (is : Bool) : Array Value :=
  #[v, .int .u64 X.cas, .int .i64 X.flush, .int .i64 now, .int .i64 c.op, .int .i64 c.mode, .string ⟨c.key.toArray⟩, .string ⟨c.val.toArray⟩, .int .u32 c.flags, .int .i64 c.exp, .bool c.hasExp, .int .u64 c.cas, .bool c.hasCas, .int .u64 c.delta, .int .u64 c.init, .bool c.down, .bool c.viv, .int .i64 c.vive, .int .i64 c.recache, .bool c.inval, .int .i64 most, .int .i64 i, .bool is]

theorem told (n : Int) (w : World) : Calls Tryd.prog 23 #[.int .i64 n] w fun e w' => e = .returned (.agg (anA (toldF n))) ∧ Below w.heap.size w w' := by
  go_enter Tryd.func23, Tryd.ntmps23
  go_wp2_with fail
  exact bodyPost_ret (v := .agg (anA (toldF n))) (by simp [results, Tryd.results23, go_sem, anA, toldF, It.zero]) rfl ⟨rfl, (Below.refl _ _).alloc (Nat.le_refl _) _⟩

theorem moment (g : Nat) (now e : Int) (hn0 : 1 ≤ now) (hn1 : now ≤ 1099511627776) (w : World) (hc : w.cell? ⟨g, 3, none⟩ = some (.int .i64 now)) :
    Calls Tryd.prog 24 #[.pointer (some ⟨g, 0, none⟩), .int .i64 e] w fun r w' => r = .returned (.int .i64 (momF now e)) ∧ w = w' := by
  by_cases h0 : e = 0
  · subst h0
    go_enter Tryd.func24, Tryd.ntmps24
    go_wp2_with fail
    go_ret
    exact ⟨ret_int (by unfold momF; rw [if_pos (.inl rfl)]), rfl⟩
  · have hb0 : (e == 0) = false := by simpa using h0
    by_cases h1 : 2592000 < e
    · have hfin : momF now e = e := by unfold momF; rw [if_pos (.inr h1)]
      have H0 := Lib.hid h0; have HF := Lib.hid hfin; clear h0 hfin
      go_enter Tryd.func24, Tryd.ntmps24
      go_wp2_with fail
      go_ret
      exact ⟨ret_int HF.out.symm, rfl⟩
    · by_cases h2 : e < 0
      · have hfin : momF now e = now := by unfold momF; rw [if_neg (by omega), if_pos h2]
        have H0 := Lib.hid h0; have HF := Lib.hid hfin; clear h0 hfin
        go_enter Tryd.func24, Tryd.ntmps24
        go_wp2_with fail
        go_ret
        exact ⟨ret_int HF.out.symm, rfl⟩
      · have hfin : momF now e = now + e := by unfold momF; rw [if_neg (by omega), if_neg h2]
        have H0 := Lib.hid h0; have HF := Lib.hid hfin; clear h0 hfin
        have h3 : 0 ≤ e := by omega
        have h4 : e ≤ 2592000 := by omega
        go_enter Tryd.func24, Tryd.ntmps24
        go_wp2_with fail
        go_ret
        exact ⟨ret_int HF.out.symm, rfl⟩

theorem item (g r n cap i : Nat) (hi : i < n) (w : World) (h0 : w.cell? ⟨g, 0, none⟩ = some (.slice (some ⟨r, 0, none⟩) n cap)) (h1 : w.cell? ⟨g, 21, none⟩ = some (.int .i64 i)) :
    Calls Tryd.prog 25 #[.pointer (some ⟨g, 0, none⟩)] w fun e w' => e = .returned (.pointer (some ⟨r, i * 8, none⟩)) ∧ ∃ q, w' = w.drewN q := by
  have b0 : (0 : Int) ≤ (i : Int) := by omega
  have b1 : (i : Int) < (n : Int) := by omega
  go_enter Tryd.func25, Tryd.ntmps25
  go_wp2_with fail
  go_quiet (fail)
  go_wp2_with fail
  go_ret
  exact ⟨rfl, _, rfl⟩

theorem other (g r n cap i : Nat) (hi : i < n) (hc : Bool) (a b : Int) (w : World) (h0 : w.cell? ⟨g, 0, none⟩ = some (.slice (some ⟨r, 0, none⟩) n cap)) (h1 : w.cell? ⟨g, 21, none⟩ = some (.int .i64 i))
    (h2 : w.cell? ⟨g, 12, none⟩ = some (.bool hc)) (h3 : w.cell? ⟨g, 11, none⟩ = some (.int .u64 b)) (h4 : w.cell? ⟨r, i * 8 + 4, none⟩ = some (.int .u64 a)) :
    Calls Tryd.prog 35 #[.pointer (some ⟨g, 0, none⟩)] w fun e w' => e = .returned (.bool (hc && !decide (a = b))) ∧ ∃ q, w' = w.drewN q := by
  cases hc with
  | false =>
    go_enter Tryd.func35, Tryd.ntmps35
    go_wp2_with fail
    go_quiet (fail)
    go_wp2_with fail
    go_ret
    exact ⟨rfl, _, rfl⟩
  | true =>
    by_cases hab : a = b
    · subst hab
      go_enter Tryd.func35, Tryd.ntmps35
      go_wp2_with fail
      go_quiet ((go_at_call 25; exact Calls.quiet_of (item g r n cap i hi _ (by simpa using h0) (by simpa using h1))))
      go_wp2_with fail
      go_ret
      exact ⟨ret_bool (by simp), _, rfl⟩
    · have hne : (a != b) = true := by simpa using hab
      have hfin : (true && !decide (a = b)) = true := by simpa using hab
      have HF := Lib.hid hfin; clear hfin hab
      go_enter Tryd.func35, Tryd.ntmps35
      go_wp2_with fail
      go_quiet ((go_at_call 25; exact Calls.quiet_of (item g r n cap i hi _ (by simpa using h0) (by simpa using h1))))
      go_wp2_with fail
      go_ret
      exact ⟨ret_bool HF.out.symm, _, rfl⟩

theorem gone (b : Nat) (now : Int) (x : It) (w : World) (hc : w.cell? ⟨b, 0, none⟩ = some (.int .i64 now)) :
    Calls Tryd.prog 18 #[.agg (itA x), .pointer (some ⟨b, 0, none⟩)] w fun e w' => e = .returned (.bool (goneB now x)) ∧ Below w.heap.size w w' := by
  have hlt := block_lt_of_cell (w := w) (a := ⟨b, 0, none⟩) (v := .int .i64 now) (by rw [hc])
  by_cases h0 : x.exp = 0
  · have hb : (x.exp != 0) = false := by simp [h0]
    have hfin : goneB now x = false := by unfold goneB; simp [h0]
    have H0 := Lib.hid h0; have HF := Lib.hid hfin; clear h0 hfin
    go_enter Tryd.func18, Tryd.ntmps18
    simp only [itA]
    go_wp2_with fail
    go_ret
    exact ⟨ret_bool HF.out.symm, (Below.refl _ _).alloc (Nat.le_refl _) _⟩
  · have hb : (x.exp != 0) = true := by simp [h0]
    have hfin : goneB now x = decide (x.exp ≤ now) := by unfold goneB; simp [h0]
    have H0 := Lib.hid h0; have HF := Lib.hid hfin; clear h0 hfin
    have hc2 : ∀ o, (w.alloc o).cell? ⟨b, 0, none⟩ = some (.int .i64 now) := fun o => Lib.cell?_alloc_some o hc
    go_enter Tryd.func18, Tryd.ntmps18
    simp only [itA]
    go_wp2_with fail
    go_ret
    exact ⟨ret_bool HF.out.symm, (Below.refl _ _).alloc (Nat.le_refl _) _⟩

theorem cmp1 (k : List UInt8) (x : It) (w : World) :
    Calls Tryd.prog 32 #[.agg (itA x), .string ⟨k.toArray⟩] w fun e w' => e = .returned (.int .i64 (Lib.compareBytes x.key k)) ∧ Below w.heap.size w w' := by
  go_enter Tryd.func32, Tryd.ntmps32
  simp only [itA]
  go_wp2_with fail
  refine (Tryd.strings_Compare _ _ _).mono ?_
  rintro e w' ⟨rfl, rfl⟩
  go_wp2_with fail
  go_ret
  exact ⟨rfl, (Below.refl _ _).alloc (Nat.le_refl _) _⟩
end Go.Proofs.YtfmpdbngpknmaaaDoor
