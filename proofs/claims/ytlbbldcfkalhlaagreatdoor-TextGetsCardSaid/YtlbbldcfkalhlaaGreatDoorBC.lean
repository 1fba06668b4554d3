/- Plain laws on decimal texts: when a text is some digits, the number that it says, and how the library's reader and its own reference answer. No program in sight. -/
import Derived.Lib.SlTrimSet
import Derived.Lib.ParseIntB
import Derived.Lib.ItoaNum
import Derived.WalkKit
import Derived.Lib.Bytealg
import Derived.Lib.ParseIntBCases
import Derived.Lib.Strings
import Derived.Lib.IndexMore
import Derived.Lib.IndexBytes
import Derived.Lib.Join
namespace Go.Proofs.YtlbbldcfkalhlaaGreatDoor
set_option linter.unusedSimpArgs false
set_option linter.unusedVariables false

def dgt (c : UInt8) : Bool := decide (48 ≤ c.toNat) && decide (c.toNat ≤ 57)
def allDgt (l : List UInt8) : Bool := l.all dgt
/-- the number that digits say, behind a beginning -/
def valFrom (a : Nat) (l : List UInt8) : Nat := l.foldl (fun n c => 10 * n + (c.toNat - 48)) a
def valOf (l : List UInt8) : Nat := valFrom 0 l
theorem valFrom_cons (a : Nat) (c : UInt8) (l : List UInt8) : valFrom a (c :: l) = valFrom (10 * a + (c.toNat - 48)) l := by unfold valFrom; rw [List.foldl_cons]
theorem valFrom_app (a : Nat) (l m : List UInt8) : valFrom a (l ++ m) = valFrom (valFrom a l) m := by unfold valFrom; rw [List.foldl_append]
theorem valFrom_ge (l : List UInt8) : ∀ a, a ≤ valFrom a l := by
  induction l with
  | nil => intro a; exact Nat.le_refl _
  | cons c l ih => intro a; rw [valFrom_cons]; exact Nat.le_trans (by omega) (ih _)

theorem drop_nil (p : UInt8 → Bool) (l : List UInt8) : l.dropWhile p = [] ↔ l.all p = true := by
  induction l with
  | nil => simp
  | cons a l ih =>
    rw [List.dropWhile_cons]
    by_cases h : p a = true
    · rw [if_pos h, ih, List.all_cons, h, Bool.true_and]
    · rw [if_neg h]; simp [h]
theorem all_drop (p : UInt8 → Bool) (l : List UInt8) : (l.dropWhile p).all p = l.all p := by
  induction l with
  | nil => rfl
  | cons a l ih =>
    rw [List.dropWhile_cons]
    by_cases h : p a = true
    · rw [if_pos h, ih, List.all_cons, h, Bool.true_and]
    · rw [if_neg h]
theorem trimS_nil (l cs : List UInt8) : (Go.Lib.trimS l cs = []) ↔ l.all (cs.contains ·) = true := by
  unfold Go.Lib.trimS Go.Lib.trimLeftS Go.Lib.trimRightS
  rw [drop_nil, List.all_reverse, all_drop, List.all_reverse]
def tenDgts : List UInt8 := [48, 49, 50, 51, 52, 53, 54, 55, 56, 57]
theorem ten_dgt (c : UInt8) : tenDgts.contains c = dgt c := by
  unfold tenDgts dgt
  rw [Bool.eq_iff_iff]
  simp only [List.contains_eq_mem, List.mem_cons, List.mem_nil_iff, or_false, decide_eq_true_eq, Bool.and_eq_true]
  constructor
  · rintro (rfl | rfl | rfl | rfl | rfl | rfl | rfl | rfl | rfl | rfl) <;> decide
  · intro ⟨h1, h2⟩
    have : c.toNat = 48 ∨ c.toNat = 49 ∨ c.toNat = 50 ∨ c.toNat = 51 ∨ c.toNat = 52 ∨ c.toNat = 53 ∨ c.toNat = 54 ∨ c.toNat = 55 ∨ c.toNat = 56 ∨ c.toNat = 57 := by omega
    have e : ∀ k : UInt8, c.toNat = k.toNat → c = k := fun k h => UInt8.toNat_inj.1 h
    rcases this with h | h | h | h | h | h | h | h | h | h
    · exact .inl (e 48 h)
    · exact .inr (.inl (e 49 h))
    · exact .inr (.inr (.inl (e 50 h)))
    · exact .inr (.inr (.inr (.inl (e 51 h))))
    · exact .inr (.inr (.inr (.inr (.inl (e 52 h)))))
    · exact .inr (.inr (.inr (.inr (.inr (.inl (e 53 h))))))
    · exact .inr (.inr (.inr (.inr (.inr (.inr (.inl (e 54 h)))))))
    · exact .inr (.inr (.inr (.inr (.inr (.inr (.inr (.inl (e 55 h))))))))
    · exact .inr (.inr (.inr (.inr (.inr (.inr (.inr (.inr (.inl (e 56 h)))))))))
    · exact .inr (.inr (.inr (.inr (.inr (.inr (.inr (.inr (.inr (e 57 h)))))))))
theorem trim_digits (l : List UInt8) : (Go.Lib.trimS l tenDgts).isEmpty = allDgt l := by
  rw [Bool.eq_iff_iff, List.isEmpty_iff, trimS_nil]
  unfold allDgt
  have : (fun c => tenDgts.contains c) = dgt := funext ten_dgt
  rw [this]

/-- the library's reader over digits alone -/
theorem parseUintM_dgts (M : Nat) (hM : M ≤ 18446744073709551615) : ∀ (l : List UInt8) (a : Nat), allDgt l = true → a ≤ M →
    (valFrom a l ≤ M ∧ Go.Lib.parseUintM M a l = .ok (valFrom a l)) ∨ (M < valFrom a l ∧ Go.Lib.parseUintM M a l = .range) := by
  intro l
  induction l with
  | nil => intro a _ ha; exact .inl ⟨ha, rfl⟩
  | cons c l ih =>
    intro a hd ha
    simp only [allDgt, List.all_cons, Bool.and_eq_true] at hd
    obtain ⟨hc, hl⟩ := hd
    simp only [dgt, Bool.and_eq_true, decide_eq_true_eq] at hc
    unfold Go.Lib.parseUintM
    rw [if_pos hc]
    rw [valFrom_cons, show 10 * a + (c.toNat - 48) = a * 10 + (c.toNat - 48) by omega]
    by_cases h1 : 1844674407370955162 ≤ a
    · rw [if_pos h1]
      have := valFrom_ge l (a * 10 + (c.toNat - 48))
      exact .inr ⟨by omega, rfl⟩
    · rw [if_neg h1]
      by_cases h2 : M < a * 10 + (c.toNat - 48)
      · rw [if_pos h2]
        have := valFrom_ge l (a * 10 + (c.toNat - 48))
        exact .inr ⟨by omega, rfl⟩
      · rw [if_neg h2]
        exact ih _ hl (by omega)
theorem parseUintB_dgts (l : List UInt8) (hne : l ≠ []) (hd : allDgt l = true) :
    (valOf l < 18446744073709551616 ∧ Go.Lib.parseUintB 64 l = .ok (valOf l)) ∨ (18446744073709551616 ≤ valOf l ∧ Go.Lib.parseUintB 64 l = .range) := by
  unfold Go.Lib.parseUintB
  rw [if_neg hne]
  rcases parseUintM_dgts (2 ^ 64 - 1) (by decide) l 0 hd (by omega) with ⟨h, e⟩ | ⟨h, e⟩
  · exact .inl ⟨by unfold valOf; omega, e⟩
  · exact .inr ⟨by unfold valOf; omega, e⟩

/-- the document's Parse: some digits, twenty at most, below 2 to the 64th -/
def parseV (l : List UInt8) : Option Nat := if l ≠ [] ∧ l.length ≤ 20 ∧ allDgt l = true ∧ valOf l < 18446744073709551616 then some (valOf l) else none

theorem allDgt_take (l : List UInt8) (k : Nat) (h : allDgt l = true) : allDgt (l.take k) = true := by
  unfold allDgt at *
  rw [List.all_eq_true] at *
  exact fun x hx => h x (List.mem_of_mem_take hx)
theorem take_one (l : List UInt8) (k : Nat) (h : k < l.length) : l.take (k + 1) = l.take k ++ [l[k]] := by rw [List.take_add_one, List.getElem?_eq_getElem h]; rfl
theorem valOf_snoc (l : List UInt8) (c : UInt8) : valOf (l ++ [c]) = 10 * valOf l + (c.toNat - 48) := by unfold valOf; rw [valFrom_app]; rfl
theorem valOf_take_le (l : List UInt8) (k : Nat) : valOf (l.take k) ≤ valOf l := by
  have h := List.take_append_drop k l
  rw [show valOf l = valFrom (valOf (l.take k)) (l.drop k) from by unfold valOf; rw [← valFrom_app, h]]
  exact valFrom_ge _ _
theorem allDgt_snoc (l : List UInt8) (c : UInt8) : allDgt (l ++ [c]) = (allDgt l && dgt c) := by simp [allDgt]
theorem parseV_bad (l : List UInt8) (k : Nat) (h : k < l.length) (hc : dgt l[k] = false) : parseV l = none := by
  unfold parseV
  rw [if_neg]
  rintro ⟨_, _, h3, _⟩
  unfold allDgt at h3
  rw [List.all_eq_true] at h3
  rw [h3 _ (List.getElem_mem h)] at hc
  cases hc
theorem parseV_over (l : List UInt8) (k : Nat) (h : 18446744073709551616 ≤ valOf (l.take k)) : parseV l = none := by
  unfold parseV
  rw [if_neg]
  rintro ⟨_, _, _, h4⟩
  have := valOf_take_le l k
  omega
theorem parseV_all (l : List UInt8) (h0 : l ≠ []) (h1 : l.length ≤ 20) (h2 : allDgt l = true) (h3 : valOf l < 18446744073709551616) : parseV l = some (valOf l) := by
  unfold parseV; rw [if_pos ⟨h0, h1, h2, h3⟩]
theorem parseV_len (l : List UInt8) (h : l.length < 1 ∨ 20 < l.length) : parseV l = none := by
  unfold parseV
  rw [if_neg]
  rintro ⟨h0, h1, _, _⟩
  have : l.length ≠ 0 := fun e => h0 (List.eq_nil_of_length_eq_zero e)
  omega
end Go.Proofs.YtlbbldcfkalhlaaGreatDoor
/- Plain laws on decimal texts, the second part: a number's text says it; texts are ordered as numbers are. No program in sight. -/
namespace Go.Proofs.YtlbbldcfkalhlaaGreatDoor
set_option linter.unusedSimpArgs false
set_option linter.unusedVariables false
open Go.Lib

theorem byte48 (k : Nat) (h : k < 10) : (UInt8.ofNat (48 + k)).toNat = 48 + k := by rw [UInt8.toNat_ofNat']; omega
theorem dec_step (u : Nat) (h : 10 ≤ u) : decDigits u = decDigits (u / 10) ++ [UInt8.ofNat (48 + u % 10)] := by rw [decDigits, dif_neg (by omega)]
theorem valOf_dec (u : Nat) : valOf (decDigits u) = u := by
  induction u using Nat.strongRecOn with
  | _ u ih =>
    by_cases h : u < 10
    · rw [decDigits_one h]
      show 10 * 0 + ((UInt8.ofNat (48 + u)).toNat - 48) = u
      rw [byte48 u h]; omega
    · rw [dec_step u (by omega), valOf_snoc, ih (u / 10) (by omega), byte48 _ (by omega)]; omega
theorem dgt_of (k : Nat) (h : k < 10) : dgt (UInt8.ofNat (48 + k)) = true := by
  unfold dgt; rw [byte48 k h]; simp; omega
theorem allDgt_dec (u : Nat) : allDgt (decDigits u) = true := by
  induction u using Nat.strongRecOn with
  | _ u ih =>
    by_cases h : u < 10
    · rw [decDigits_one h]; show (dgt _ && true) = true; rw [dgt_of u h]; rfl
    · rw [dec_step u (by omega), allDgt_snoc, ih (u / 10) (by omega), dgt_of _ (by omega)]; rfl
theorem dec_len (u : Nat) : 1 ≤ (decDigits u).length := by
  rw [decDigits_length]
  by_cases h : u < 10
  · rw [nDigits_small h]; omega
  · rw [nDigits_big h]; omega
theorem dec_len_le (u : Nat) (h : u < 18446744073709551616) : (decDigits u).length ≤ 20 := by
  rw [decDigits_length]
  by_cases h1 : 1 ≤ u
  · have h2 := numDigits_eq u h1 h; split at h2 <;> omega
  · rw [show u = 0 by omega, nDigits_small (by omega)]; omega
theorem parseV_dec (u : Nat) (h : u < 18446744073709551616) : parseV (decDigits u) = some u := by
  have h1 := dec_len u
  rw [parseV_all _ (by intro e; rw [e] at h1; simp at h1) (dec_len_le u h) (allDgt_dec u) (by rw [valOf_dec]; exact h), valOf_dec]
theorem dec_inj {u v : Nat} (h : decDigits u = decDigits v) : u = v := by rw [← valOf_dec u, h, valOf_dec]

theorem len_mono {u v : Nat} (h : u ≤ v) : (decDigits u).length ≤ (decDigits v).length := by
  induction v using Nat.strongRecOn generalizing u with
  | _ v ih =>
    by_cases hu : u < 10
    · rw [decDigits_one hu]; exact dec_len v
    · rw [dec_step u (by omega), dec_step v (by omega), List.length_append, List.length_append]
      have := ih (v / 10) (by omega) (u := u / 10) (by omega)
      simp; omega

theorem valFrom_lt : ∀ (l : List UInt8) (a : Nat), allDgt l = true → valFrom a l < (a + 1) * 10 ^ l.length := by
  intro l
  induction l with
  | nil => intro a _; show a < (a + 1) * 1; omega
  | cons c l ih =>
    intro a hd
    simp only [allDgt, List.all_cons, Bool.and_eq_true] at hd
    obtain ⟨hc, hl⟩ := hd
    simp only [dgt, Bool.and_eq_true, decide_eq_true_eq] at hc
    rw [valFrom_cons, List.length_cons, Nat.pow_succ]
    have h1 := ih (10 * a + (c.toNat - 48)) hl
    have h2 : (10 * a + (c.toNat - 48) + 1) * 10 ^ l.length ≤ (10 * (a + 1)) * 10 ^ l.length := Nat.mul_le_mul (by omega) (Nat.le_refl _)
    have h3 : (10 * (a + 1)) * 10 ^ l.length = (a + 1) * (10 ^ l.length * 10) := by rw [Nat.mul_comm 10 (a + 1), Nat.mul_assoc, Nat.mul_comm 10]
    omega
theorem valFrom_base : ∀ (l : List UInt8) (a b : Nat), valFrom (a + b) l = a * 10 ^ l.length + valFrom b l := by
  intro l
  induction l with
  | nil => intro a b; show a + b = a * 1 + b; omega
  | cons c l ih =>
    intro a b
    rw [valFrom_cons, valFrom_cons, List.length_cons, Nat.pow_succ, show 10 * (a + b) + (c.toNat - 48) = 10 * a + (10 * b + (c.toNat - 48)) by omega, ih]
    rw [Nat.mul_comm 10 a, Nat.mul_assoc, Nat.mul_comm 10]
/-- texts of one length, digits alone: as the numbers that they say -/
theorem less_iff : ∀ (l m : List UInt8), l.length = m.length → allDgt l = true → allDgt m = true → (Op.bytesLess l m = true ↔ valOf l < valOf m) := by
  intro l
  induction l with
  | nil =>
    intro m h _ _
    have : m = [] := List.eq_nil_of_length_eq_zero h.symm
    subst this
    simp [Op.bytesLess]
  | cons c l ih =>
    intro m h hl hm
    cases m with
    | nil => cases h
    | cons d m =>
      simp only [allDgt, List.all_cons, Bool.and_eq_true] at hl hm
      obtain ⟨hc, hl⟩ := hl
      obtain ⟨hd, hm⟩ := hm
      simp only [dgt, Bool.and_eq_true, decide_eq_true_eq] at hc hd
      have hlen : l.length = m.length := by simpa using h
      have i1 := ih m hlen hl hm
      have e1 : valOf (c :: l) = (c.toNat - 48) * 10 ^ l.length + valOf l := by
        unfold valOf; rw [valFrom_cons, show 10 * 0 + (c.toNat - 48) = (c.toNat - 48) + 0 by omega, valFrom_base]
      have e2 : valOf (d :: m) = (d.toNat - 48) * 10 ^ l.length + valOf m := by
        unfold valOf; rw [valFrom_cons, show 10 * 0 + (d.toNat - 48) = (d.toNat - 48) + 0 by omega, valFrom_base, hlen]
      have b1 := valFrom_lt l 0 hl
      have b2 := valFrom_lt m 0 hm
      rw [← hlen] at b2
      change valOf l < _ at b1
      change valOf m < _ at b2
      rw [e1, e2]
      generalize 10 ^ l.length = T at *
      rw [Nat.zero_add, Nat.one_mul] at b1 b2
      unfold Op.bytesLess
      rw [Bool.or_eq_true, Bool.and_eq_true, decide_eq_true_eq, beq_iff_eq, i1, UInt8.lt_iff_toNat_lt, ← UInt8.toNat_inj]
      rcases Nat.lt_trichotomy c.toNat d.toNat with h1 | h1 | h1
      · have h2 : (c.toNat - 48 + 1) * T ≤ (d.toNat - 48) * T := Nat.mul_le_mul (by omega) (Nat.le_refl _)
        rw [Nat.add_mul, Nat.one_mul] at h2
        constructor
        · intro _; omega
        · intro _; exact .inl h1
      · rw [h1]
        constructor
        · rintro (h2 | ⟨_, h2⟩) <;> omega
        · intro h2; exact .inr ⟨rfl, by omega⟩
      · have h2 : (d.toNat - 48 + 1) * T ≤ (c.toNat - 48) * T := Nat.mul_le_mul (by omega) (Nat.le_refl _)
        rw [Nat.add_mul, Nat.one_mul] at h2
        constructor
        · rintro (h3 | ⟨h3, _⟩) <;> omega
        · intro h3; omega

theorem order_num (u v : Nat) : decide (u < v) = (decide ((decDigits u).length < (decDigits v).length) || (decide ((decDigits u).length = (decDigits v).length) && Op.bytesLess (decDigits u) (decDigits v))) := by
  rw [Bool.eq_iff_iff, Bool.or_eq_true, Bool.and_eq_true, decide_eq_true_eq, decide_eq_true_eq, decide_eq_true_eq]
  constructor
  · intro h
    have h1 := len_mono (u := u) (v := v) (by omega)
    by_cases h2 : (decDigits u).length = (decDigits v).length
    · exact .inr ⟨h2, (less_iff _ _ h2 (allDgt_dec u) (allDgt_dec v)).2 (by rw [valOf_dec, valOf_dec]; exact h)⟩
    · exact .inl (by omega)
  · rintro (h | ⟨h, h2⟩)
    · refine Classical.byContradiction fun hn => ?_
      have h1 := len_mono (u := v) (v := u) (by omega)
      omega
    · have := (less_iff _ _ h (allDgt_dec u) (allDgt_dec v)).1 h2
      rwa [valOf_dec, valOf_dec] at this
end Go.Proofs.YtlbbldcfkalhlaaGreatDoor
/- The model's plain functions: what Apply computes of a state and a command. No program in sight. -/
namespace Go.Proofs.YtlbbldcfkalhlaaGreatDoor
set_option linter.unusedSimpArgs false
set_option linter.unusedVariables false
open Go.Lib

/-- an item -/
structure It where
  key : List UInt8
  flags : Int
  val : List UInt8
  exp : Int
  cas : Int
  last : Int
  stale : Bool
  won : Bool
/-- a state -/
structure St where
  items : List It
  cas : Int
  flush : Int
/-- a command -/
structure Cd where
  op : Int
  mode : Int
  key : List UInt8
  val : List UInt8
  flags : Int
  exp : Int
  hasExp : Bool
  cas : Int
  hasCas : Bool
  delta : Int
  init : Int
  down : Bool
  viv : Bool
  vive : Int
  recache : Int
  inval : Bool
/-- an answer -/
structure An where
  st : Int
  it : It
  num : Int
  w : Bool
  x : Bool
  z : Bool

def It.zero : It := ⟨[], 0, [], 0, 0, 0, false, false⟩
def St.zero : St := ⟨[], 0, 0⟩
def An.zero : An := ⟨0, It.zero, 0, false, false, false⟩
def toldF (n : Int) : An := ⟨n, It.zero, 0, false, false, false⟩

def keyB (k : List UInt8) : Bool := !k.isEmpty && (k.all fun c => decide (32 < c.toNat) && decide (c.toNat ≠ 127)) && decide (k.length ≤ 250)
def nearB (n : Int) : Bool := decide (-1099511627776 ≤ n) && decide (n ≤ 1099511627776)
def mayB (c : Cd) : Bool := decide (1 ≤ c.op) && decide (c.op ≤ 7) && decide (0 ≤ c.mode) && decide (c.mode ≤ 4) && decide (c.val.length ≤ 65536) && (nearB c.exp && nearB c.vive && nearB c.recache) && (decide (c.op = 6) || keyB c.key)
def momF (now e : Int) : Int := if e = 0 ∨ 2592000 < e then e else if e < 0 then now else now + e
def goneB (now : Int) (x : It) : Bool := !decide (x.exp = 0) && decide (x.exp ≤ now)
def addV (l : List UInt8) (d : Int) : Option (List UInt8) := match parseV l with | some n => some (decDigits (IntKind.u64.wrap ((n : Int) + d)).toNat) | none => none
def subV (l : List UInt8) (d : Int) : Option (List UInt8) := match parseV l with | some n => some (decDigits ((n : Int) - min (n : Int) d).toNat) | none => none

/-- where a key's item stands, or would -/
def atF (l : List It) (k : List UInt8) : Nat := (l.takeWhile fun x => Op.bytesLess x.key k).length
def isF (l : List It) (k : List UInt8) : Bool := match l[atF l k]? with | some x => x.key == k | none => false
def itF (l : List It) (i : Nat) : It := l.getD i It.zero
def putF (X : St) (i : Nat) (is : Bool) (x : It) : St × It :=
  ({ X with cas := IntKind.u64.wrap (X.cas + 1), items := if is then X.items.set i { x with cas := IntKind.u64.wrap (X.cas + 1) } else X.items.take i ++ { x with cas := IntKind.u64.wrap (X.cas + 1) } :: X.items.drop i },
   { x with cas := IntKind.u64.wrap (X.cas + 1) })
def otherB (c : Cd) (x : It) : Bool := c.hasCas && !decide (x.cas = c.cas)

def soonB (now : Int) (c : Cd) (x : It) : Bool := decide (0 ≤ c.recache) && !decide (x.exp = 0) && decide (x.exp - now < c.recache)
def winB (now : Int) (c : Cd) (x : It) : Bool := !x.won && (x.stale || soonB now c x)
def gotF (now : Int) (c : Cd) (x : It) : It := { x with won := x.won || winB now c x, last := now, exp := if c.hasExp then momF now c.exp else x.exp }
def getF (X : St) (now : Int) (c : Cd) (i : Nat) (is : Bool) : St × An :=
  if is then ({ X with items := X.items.set i (gotF now c (itF X.items i)) }, ⟨1, gotF now c (itF X.items i), 0, winB now c (itF X.items i), (itF X.items i).stale, (itF X.items i).won⟩)
  else if c.viv then ((putF X i false ⟨c.key, 0, [], momF now c.vive, 0, 0, false, true⟩).1, ⟨1, (putF X i false ⟨c.key, 0, [], momF now c.vive, 0, 0, false, true⟩).2, 0, true, false, false⟩)
  else (X, toldF 5)

/-- what is stored, ahead of its token -/
def newF (now : Int) (c : Cd) (x : It) (stale : Bool) : It :=
  if c.mode = 3 then { x with val := x.val ++ c.val, stale := stale, won := false }
  else if c.mode = 4 then { x with val := c.val ++ x.val, stale := stale, won := false }
  else ⟨c.key, c.flags, c.val, momF now c.exp, 0, 0, stale, false⟩
def fitsB (most : Int) (x : It) : Bool := decide ((x.key.length : Int) + (x.val.length : Int) ≤ most)
def storeF (X : St) (now : Int) (c : Cd) (most : Int) (i : Nat) (is : Bool) : St × An :=
  if (decide (c.mode = 1) && is || decide (1 < c.mode) && !is) = true then (X, toldF 3)
  else if (c.hasCas && !is) = true then (X, toldF 5)
  else if (is && otherB c (itF X.items i) && !(c.inval && decide (c.cas < (itF X.items i).cas))) = true then (X, toldF 4)
  else if fitsB most (newF now c (itF X.items i) (is && otherB c (itF X.items i))) then
    ((putF X i is (newF now c (itF X.items i) (is && otherB c (itF X.items i)))).1, ⟨2, (putF X i is (newF now c (itF X.items i) (is && otherB c (itF X.items i)))).2, 0, false, false, false⟩)
  else (X, toldF 11)

def numPut (X : St) (most : Int) (i : Nat) (is : Bool) (x : It) : St × An :=
  if fitsB most x then ((putF X i is x).1, ⟨6, (putF X i is x).2, (((parseV x.val).getD 0 : Nat) : Int), false, false, false⟩) else (X, toldF 11)
def mathF (X : St) (now : Int) (c : Cd) (most : Int) (i : Nat) (is : Bool) : St × An :=
  if is then
    if otherB c (itF X.items i) then (X, toldF 4)
    else match (if c.down then subV (itF X.items i).val c.delta else addV (itF X.items i).val c.delta) with
      | none => (X, toldF 7)
      | some v => numPut X most i true { itF X.items i with val := v, exp := if c.hasExp then momF now c.exp else (itF X.items i).exp }
  else if c.viv then numPut X most i false ⟨c.key, 0, decDigits c.init.toNat, momF now c.vive, 0, 0, false, false⟩
  else (X, toldF 5)

def goneF (now : Int) (c : Cd) (x : It) : It := { x with stale := true, won := false, exp := if c.hasExp then momF now c.exp else x.exp }
def removeF (X : St) (now : Int) (c : Cd) (i : Nat) (is : Bool) : St × An :=
  if is then
    if otherB c (itF X.items i) then (X, toldF 4)
    else if c.inval then ((putF X i true (goneF now c (itF X.items i))).1, ⟨9, (putF X i true (goneF now c (itF X.items i))).2, 0, false, false, false⟩)
    else ({ X with items := X.items.eraseIdx i }, toldF 9)
  else (X, toldF 5)

def flushF (X : St) (now : Int) (c : Cd) : St × An :=
  if momF now c.exp ≤ now then ({ X with items := [], flush := 0 }, toldF 10) else ({ X with flush := momF now c.exp }, toldF 10)

def touchF (X : St) (now : Int) (c : Cd) (i : Nat) (is : Bool) : St × An :=
  if is then ({ X with items := X.items.set i { itF X.items i with exp := momF now c.exp } }, ⟨8, { itF X.items i with exp := momF now c.exp }, 0, false, false, false⟩) else (X, toldF 5)
def lookF (X : St) (i : Nat) (is : Bool) : St × An := if is then (X, ⟨1, itF X.items i, 0, false, false, false⟩) else (X, toldF 5)

def liveF (X : St) (now : Int) : St :=
  if X.flush ≠ 0 ∧ X.flush ≤ now then { X with items := [], flush := 0 } else { X with items := X.items.filter fun x => !goneB now x }
def doF (X : St) (now : Int) (c : Cd) (most : Int) (i : Nat) (is : Bool) : St × An :=
  if c.op = 1 then getF X now c i is
  else if c.op = 2 then storeF X now c most i is
  else if c.op = 3 then mathF X now c most i is
  else if c.op = 4 then touchF X now c i is
  else if c.op = 7 then lookF X i is
  else if c.op = 5 then removeF X now c i is
  else flushF X now c
def applyF (X : St) (now : Int) (c : Cd) (most : Int) : St × An :=
  if mayB c = true ∧ 1 ≤ now ∧ now ≤ 1099511627776 then doF (liveF X now) now c most (atF (liveF X now).items c.key) (isF (liveF X now).items c.key)
  else (St.zero, An.zero)
end Go.Proofs.YtlbbldcfkalhlaaGreatDoor
/- Plain laws on texts of numbers with a sign. No program in sight. -/
namespace Go.Proofs.YtlbbldcfkalhlaaGreatDoor
set_option linter.unusedSimpArgs false
set_option linter.unusedVariables false
open Go.Lib

def isNeg : List UInt8 → Bool | c :: _ => c == 45 | [] => false
def unsig (l : List UInt8) : List UInt8 := if isNeg l then l.drop 1 else l
/-- the document's Signed: perhaps a dash, and some digits, nineteen at most -/
def signedV (l : List UInt8) : Option Int :=
  if unsig l ≠ [] ∧ (unsig l).length ≤ 19 ∧ allDgt (unsig l) = true ∧ (valOf (unsig l) < 9223372036854775808 ∨ isNeg l = true ∧ valOf (unsig l) = 9223372036854775808)
  then some (if isNeg l then -(valOf (unsig l) : Int) else (valOf (unsig l) : Int)) else none
theorem isNeg_cons {l : List UInt8} (h : isNeg l = true) : ∃ r, l = 45 :: r := by
  cases l with
  | nil => cases h
  | cons c r => exact ⟨r, by unfold isNeg at h; rw [beq_iff_eq.1 h]⟩
theorem trimDash (l : List UInt8) : trimPrefix l [45] = unsig l := by
  unfold trimPrefix hasPrefix unsig isNeg
  cases l with
  | nil => rfl
  | cons c r =>
    by_cases h : c = 45
    · subst h; rfl
    · have h1 : (c == 45) = false := by simpa using h
      have h2 : ([45] : List UInt8).isPrefixOf (c :: r) = false := by
        have : ((45 : UInt8) == c) = false := by simpa using fun e => h e.symm
        simp [List.isPrefixOf, this]
      rw [h2]
      show _ = if (c == 45) = true then _ else _
      rw [h1]; rfl
theorem pow19 : ∀ k, k ≤ 19 → 10 ^ k ≤ 10000000000000000000 := fun k hk => by
  have := Nat.pow_le_pow_right (n := 10) (by omega) hk
  exact this
theorem val19 (l : List UInt8) (h : l.length ≤ 19) (hd : allDgt l = true) : valOf l < 10000000000000000000 := by
  have h1 := valFrom_lt l 0 hd
  have h2 := pow19 l.length h
  unfold valOf; omega
/-- the library's reader, of such a text -/
theorem parseIntB_dgts (l : List UInt8) (h0 : unsig l ≠ []) (h1 : (unsig l).length ≤ 19) (h2 : allDgt (unsig l) = true) :
    (∃ v, signedV l = some v ∧ parseIntB 64 l = .ok v) ∨ (signedV l = none ∧ parseIntB 64 l = .range) := by
  have hv := val19 _ h1 h2
  have hp : parseUintB 64 (unsig l) = .ok (valOf (unsig l)) := by
    rcases parseUintB_dgts (unsig l) h0 h2 with ⟨_, e⟩ | ⟨h, _⟩
    · exact e
    · omega
  by_cases hn : isNeg l = true
  · obtain ⟨r, rfl⟩ := isNeg_cons hn
    have er : unsig (45 :: r) = r := rfl
    rw [er] at h0 h1 h2 hv hp
    rw [parseIntB_minus, hp]
    unfold signedC signedV
    rw [er, if_pos (show isNeg (45 :: r) = true from rfl)]
    by_cases hc : 2 ^ (64 - 1) < valOf r
    · exact .inr ⟨if_neg (fun ⟨_, _, _, h⟩ => by omega), if_pos hc⟩
    · exact .inl ⟨_, if_pos ⟨h0, h1, h2, by rcases Nat.lt_or_ge (valOf r) 9223372036854775808 with h | h; exact .inl h; exact .inr ⟨rfl, by omega⟩⟩, if_neg hc⟩
  · have hn' : isNeg l = false := by simpa using hn
    have er : unsig l = l := by unfold unsig; rw [if_neg hn]
    rw [er] at h0 h1 h2 hv hp
    cases l with
    | nil => exact absurd rfl h0
    | cons c r =>
      have hc : dgt c = true := by simp only [allDgt, List.all_cons, Bool.and_eq_true] at h2; exact h2.1
      simp only [dgt, Bool.and_eq_true, decide_eq_true_eq] at hc
      rw [parseIntB_plain 64 c r (by omega) (by omega), hp]
      unfold signlessC signedV
      rw [er, if_neg hn]
      by_cases hk : 2 ^ (64 - 1) ≤ valOf (c :: r)
      · exact .inr ⟨if_neg (fun ⟨_, _, _, h⟩ => by rcases h with h | ⟨h, _⟩; omega; exact hn h), if_pos hk⟩
      · exact .inl ⟨_, if_pos ⟨h0, h1, h2, .inl (by omega)⟩, if_neg hk⟩
theorem signedV_rng {l : List UInt8} {v : Int} (h : signedV l = some v) : -9223372036854775808 ≤ v ∧ v < 9223372036854775808 := by
  unfold signedV at h
  split at h
  · rename_i hh
    cases h
    obtain ⟨_, _, _, h4⟩ := hh
    rcases h4 with h4 | ⟨hn, h4⟩
    · split <;> omega
    · rw [if_pos hn]; omega
  · cases h
end Go.Proofs.YtlbbldcfkalhlaaGreatDoor
/- Plain laws on a line's words. No program in sight. -/
namespace Go.Proofs.YtlbbldcfkalhlaaGreatDoor
set_option linter.unusedSimpArgs false
set_option linter.unusedVariables false
open Go.Lib

/-- a line's words, by the blanks: at most so many rounds -/
def wordsF : Nat → List UInt8 → List (List UInt8)
  | 0, _ => []
  | k + 1, l => if l.dropWhile (· == 32) = [] then [] else (l.dropWhile (· == 32)).takeWhile (· != 32) :: wordsF k (((l.dropWhile (· == 32)).dropWhile (· != 32)).drop 1)

theorem wordsF_succ (k : Nat) (l : List UInt8) : wordsF (k + 1) l = if l.dropWhile (· == 32) = [] then [] else (l.dropWhile (· == 32)).takeWhile (· != 32) :: wordsF k (((l.dropWhile (· == 32)).dropWhile (· != 32)).drop 1) := rfl

/-- a word: it is there, and holds no blank -/
def isWord (l : List UInt8) : Prop := l ≠ [] ∧ ∀ c ∈ l, c ≠ 32

theorem dropSp_word {a : List UInt8} (h : isWord a) (r : List UInt8) : (a ++ r).dropWhile (· == 32) = a ++ r := by
  obtain ⟨h1, h2⟩ := h
  cases a with
  | nil => exact absurd rfl h1
  | cons c a =>
    rw [List.cons_append, List.dropWhile_cons_of_neg]
    have := h2 c (by simp)
    simpa using this
theorem take_word {a : List UInt8} (h : isWord a) (r : List UInt8) : (a ++ 32 :: r).takeWhile (· != 32) = a := by
  obtain ⟨_, h2⟩ := h
  rw [List.takeWhile_append_of_pos (fun c hc => by simpa using h2 c hc)]
  simp
theorem drop_word {a : List UInt8} (h : isWord a) (r : List UInt8) : (a ++ 32 :: r).dropWhile (· != 32) = 32 :: r := by
  obtain ⟨_, h2⟩ := h
  rw [List.dropWhile_append_of_pos (fun c hc => by simpa using h2 c hc)]
  simp
theorem take_all {a : List UInt8} (h : isWord a) : a.takeWhile (· != 32) = a := by
  have := List.takeWhile_append_of_pos (p := (· != 32)) (l₁ := a) (l₂ := []) (fun c hc => by simpa using h.2 c hc)
  simpa using this
theorem drop_all {a : List UInt8} (h : isWord a) : a.dropWhile (· != 32) = [] := by
  have := List.dropWhile_append_of_pos (p := (· != 32)) (l₁ := a) (l₂ := []) (fun c hc => by simpa using h.2 c hc)
  simpa using this
theorem words_cons {a : List UInt8} (h : isWord a) (r : List UInt8) (k : Nat) : wordsF (k + 1) (a ++ 32 :: r) = a :: wordsF k r := by
  rw [wordsF_succ, dropSp_word h, if_neg (by simp), take_word h, drop_word h]
  rfl
theorem words_last {a : List UInt8} (h : isWord a) (k : Nat) : wordsF (k + 2) a = [a] := by
  have hd := dropSp_word h []
  rw [List.append_nil] at hd
  rw [wordsF_succ, hd, if_neg h.1, take_all h, drop_all h, wordsF_succ]
  simp
theorem words_three {a b c : List UInt8} (ha : isWord a) (hb : isWord b) (hc : isWord c) (k : Nat) : wordsF (k + 4) (a ++ 32 :: (b ++ 32 :: c)) = [a, b, c] := by
  rw [words_cons ha, words_cons hb, words_last hc]
theorem isWord_dec (u : Nat) : isWord (decDigits u) := by
  refine ⟨by intro e; have := dec_len u; rw [e] at this; simp at this, ?_⟩
  intro c hc
  have h := allDgt_dec u
  unfold allDgt at h
  rw [List.all_eq_true] at h
  have := h c hc
  simp only [dgt, Bool.and_eq_true, decide_eq_true_eq] at this
  rintro rfl
  have h2 := this.1
  rw [show (32 : UInt8).toNat = 32 from rfl] at h2
  omega
end Go.Proofs.YtlbbldcfkalhlaaGreatDoor
/- Cut at a blank, by what stands ahead of it and behind it. No program in sight. -/
namespace Go.Proofs.YtlbbldcfkalhlaaGreatDoor
set_option linter.unusedSimpArgs false
set_option linter.unusedVariables false
open Go.Lib

theorem cut_cases (c : UInt8) (l : List UInt8) : (indexByte l c = -1 ∧ l.takeWhile (· != c) = l ∧ l.dropWhile (· != c) = []) ∨ (∃ k : Nat, indexByte l c = (k : Int) ∧ l.takeWhile (· != c) = l.take k ∧ l.dropWhile (· != c) = l.drop k) := by
  induction l with
  | nil => exact .inl ⟨rfl, rfl, rfl⟩
  | cons b l ih =>
    by_cases hb : b = c
    · subst hb
      exact .inr ⟨0, by simp [indexByte], by simp, by simp⟩
    · have hb2 : (b == c) = false := by simpa using hb
      have hb3 : (b != c) = true := by simpa using hb
      rcases ih with ⟨h1, h2, h3⟩ | ⟨k, h1, h2, h3⟩
      · refine .inl ⟨by simp [indexByte, hb2, h1], ?_, ?_⟩
        · rw [List.takeWhile_cons, if_pos hb3, h2]
        · rw [List.dropWhile_cons, if_pos hb3, h3]
      · refine .inr ⟨k + 1, ?_, ?_, ?_⟩
        · have : ¬ ((k : Int) = -1) := by omega
          simp [indexByte, hb2, h1, this]
        · rw [List.takeWhile_cons, if_pos hb3, h2, List.take_succ_cons]
        · rw [List.dropWhile_cons, if_pos hb3, h3, List.drop_succ_cons]

/-- the two sides of strings.Cut at one byte -/
theorem cut_one (c : UInt8) (l : List UInt8) : (cut l [c]).1 = l.takeWhile (· != c) ∧ (cut l [c]).2.1 = (l.dropWhile (· != c)).drop 1 := by
  unfold cut
  rw [index_one]
  rcases cut_cases c l with ⟨h1, h2, h3⟩ | ⟨k, h1, h2, h3⟩
  · rw [h1, if_neg (by decide), h2, h3]
    exact ⟨rfl, rfl⟩
  · rw [h1, if_pos (by omega), h2, h3]
    refine ⟨by simp, ?_⟩
    simp [List.drop_drop]
end Go.Proofs.YtlbbldcfkalhlaaGreatDoor
/- Plain laws on texts: noughts ahead, a dash ahead, a byte put in. No program in sight. -/
namespace Go.Proofs.YtlbbldcfkalhlaaGreatDoor
set_option linter.unusedSimpArgs false
set_option linter.unusedVariables false
open Go.Lib

theorem valFrom_zeros (k : Nat) (l : List UInt8) : valOf (List.replicate k 48 ++ l) = valOf l := by
  unfold valOf
  rw [valFrom_app]
  congr 1
  induction k with
  | zero => rfl
  | succ k ih => rw [List.replicate_succ, valFrom_cons]; exact ih
theorem allDgt_zeros (k : Nat) (l : List UInt8) (h : allDgt l = true) : allDgt (List.replicate k 48 ++ l) = true := by
  unfold allDgt at *
  rw [List.all_append, h, Bool.and_true, List.all_eq_true]
  intro x hx
  rw [List.eq_of_mem_replicate hx]; rfl
theorem parseV_zeros (k : Nat) (u : Nat) (h : u < 18446744073709551616) : parseV (List.replicate k 48 ++ decDigits u) = if (List.replicate k (48 : UInt8) ++ decDigits u).length ≤ 20 then some u else none := by
  have h1 := dec_len u
  by_cases hc : (List.replicate k (48 : UInt8) ++ decDigits u).length ≤ 20
  · rw [if_pos hc, parseV_all _ (by intro e; have := congrArg List.length e; simp at this; rw [this.2] at h1; simp at h1) hc (allDgt_zeros k _ (allDgt_dec u)) (by rw [valFrom_zeros, valOf_dec]; exact h), valFrom_zeros, valOf_dec]
  · rw [if_neg hc, parseV_len _ (.inr (by omega))]
theorem len19 (u : Nat) (h : u < 10000000000000000000) : (decDigits u).length ≤ 19 := by
  have h1 := len_mono (u := u) (v := 9999999999999999999) (by omega)
  have h2 : (decDigits 9999999999999999999).length = 19 := by decide +kernel
  omega
theorem dec_notneg (u : Nat) : isNeg (decDigits u) = false := by
  have h1 := allDgt_dec u
  cases h : decDigits u with
  | nil => rfl
  | cons c r =>
    rw [h] at h1
    simp only [allDgt, List.all_cons, Bool.and_eq_true, dgt, decide_eq_true_eq] at h1
    unfold isNeg
    rw [beq_eq_false_iff_ne]
    rintro rfl
    have := h1.1.1
    rw [show (45 : UInt8).toNat = 45 from rfl] at this
    omega
theorem unsig_dec (u : Nat) : unsig (decDigits u) = decDigits u := by unfold unsig; rw [if_neg (by rw [dec_notneg]; decide)]
theorem dec_ne (u : Nat) : decDigits u ≠ [] := by intro e; have := dec_len u; rw [e] at this; simp at this
theorem signedV_dec_lo (u : Nat) (h : u < 9223372036854775808) : signedV (decDigits u) = some (u : Int) := by
  unfold signedV
  rw [unsig_dec, if_pos ⟨dec_ne u, len19 u (by omega), allDgt_dec u, .inl (by rw [valOf_dec]; exact h)⟩, if_neg (by rw [dec_notneg]; decide), valOf_dec]
theorem signedV_dec_hi (u : Nat) (h : 9223372036854775808 ≤ u) : signedV (decDigits u) = none := by
  unfold signedV
  rw [unsig_dec, if_neg]
  rintro ⟨_, _, _, h4⟩
  rw [valOf_dec, dec_notneg] at h4
  rcases h4 with h4 | ⟨h4, _⟩
  · omega
  · cases h4
theorem signedV_dash_lo (u : Nat) (h : u ≤ 9223372036854775808) : signedV (45 :: decDigits u) = some (-(u : Int)) := by
  unfold signedV
  rw [show unsig (45 :: decDigits u) = decDigits u from rfl, if_pos ⟨dec_ne u, len19 u (by omega), allDgt_dec u, by rw [valOf_dec]; rcases Nat.lt_or_ge u 9223372036854775808 with h1 | h1; exact .inl h1; exact .inr ⟨rfl, by omega⟩⟩, if_pos (show isNeg (45 :: decDigits u) = true from rfl), valOf_dec]
theorem signedV_dash_hi (u : Nat) (h : 9223372036854775808 < u) : signedV (45 :: decDigits u) = none := by
  unfold signedV
  rw [show unsig (45 :: decDigits u) = decDigits u from rfl, if_neg]
  rintro ⟨_, _, _, h4⟩
  rw [valOf_dec] at h4
  rcases h4 with h4 | ⟨_, h4⟩ <;> omega

/-- a byte that is no digit, put in anywhere -/
theorem parseV_in (l : List UInt8) (k : Nat) (c : UInt8) (hc : dgt c = false) : parseV (l.take k ++ [c] ++ l.drop k) = none := by
  unfold parseV
  rw [if_neg]
  rintro ⟨_, _, h, _⟩
  simp [allDgt, hc] at h
theorem signedV_in (l : List UInt8) (k : Nat) (c : UInt8) (hc : dgt c = false) (h : c ≠ 45 ∨ (l.take k) ≠ []) (hl : isNeg l = false) : signedV (l.take k ++ [c] ++ l.drop k) = none := by
  have hn : isNeg (l.take k ++ [c] ++ l.drop k) = false := by
    cases ht : l.take k with
    | nil =>
      rcases h with h | h
      · simp [isNeg, h]
      · exact absurd ht h
    | cons d r =>
      cases l with
      | nil => simp at ht
      | cons e l =>
        cases k with
        | zero => simp at ht
        | succ k =>
          simp at ht
          rw [← ht.1]
          simpa [isNeg] using hl
  unfold signedV
  have hu : unsig (l.take k ++ [c] ++ l.drop k) = l.take k ++ [c] ++ l.drop k := by unfold unsig; rw [if_neg (by rw [hn]; decide)]
  rw [hu, if_neg]
  rintro ⟨_, _, h, _⟩
  simp [allDgt, hc] at h
end Go.Proofs.YtlbbldcfkalhlaaGreatDoor
/- What text.Parse and text.Reply compute. No program in sight. Printed by gen_textf.py. -/
namespace Go.Proofs.YtlbbldcfkalhlaaGreatDoor
set_option linter.unusedSimpArgs false
set_option linter.unusedVariables false
open Go.Lib

/-- a request -/
structure Rq where
  kind : Int
  cmds : List Cd
  quiet : Bool
  tokens : Bool
  reply : List UInt8
  arg : List UInt8
  skip : Int
  close : Bool
  word : List UInt8
def Rq.zero : Rq := ⟨0, [], false, false, [], [], 0, false, []⟩
def badR (s : List UInt8) : Rq := ⟨2, [], false, false, s, [], 0, false, []⟩
def f_unknown : List UInt8 := [69, 82, 82, 79, 82]
def f_format : List UInt8 := [67, 76, 73, 69, 78, 84, 95, 69, 82, 82, 79, 82, 32, 98, 97, 100, 32, 99, 111, 109, 109, 97, 110, 100, 32, 108, 105, 110, 101, 32, 102, 111, 114, 109, 97, 116]
def f_exptime : List UInt8 := [67, 76, 73, 69, 78, 84, 95, 69, 82, 82, 79, 82, 32, 105, 110, 118, 97, 108, 105, 100, 32, 101, 120, 112, 116, 105, 109, 101, 32, 97, 114, 103, 117, 109, 101, 110, 116]
def f_delta : List UInt8 := [67, 76, 73, 69, 78, 84, 95, 69, 82, 82, 79, 82, 32, 105, 110, 118, 97, 108, 105, 100, 32, 110, 117, 109, 101, 114, 105, 99, 32, 100, 101, 108, 116, 97, 32, 97, 114, 103, 117, 109, 101, 110, 116]
def f_large : List UInt8 := [83, 69, 82, 86, 69, 82, 95, 69, 82, 82, 79, 82, 32, 111, 98, 106, 101, 99, 116, 32, 116, 111, 111, 32, 108, 97, 114, 103, 101, 32, 102, 111, 114, 32, 99, 97, 99, 104, 101]
def b_noreply : List UInt8 := [110, 111, 114, 101, 112, 108, 121]
def b_chunk : List UInt8 := [67, 76, 73, 69, 78, 84, 95, 69, 82, 82, 79, 82, 32, 98, 97, 100, 32, 100, 97, 116, 97, 32, 99, 104, 117, 110, 107]
def b_long : List UInt8 := [67, 76, 73, 69, 78, 84, 95, 69, 82, 82, 79, 82, 32, 108, 105, 110, 101, 32, 116, 111, 111, 32, 108, 111, 110, 103]
/-- what a line's reading comes to: a fault, or a request, whether its data are not all there, how many bytes behind the line it has -/
inductive Rd' where
  | fault (f : List UInt8)
  | got (r : Rq) (more : Bool) (used : Int)
def secF (s : List UInt8) : Int × Bool := match signedV s with
  | some n => (n, nearB n)
  | none => (0, false)
def offF (w : List (List UInt8)) : List (List UInt8) × Bool := match w.getLast? with
  | some x => if x = b_noreply then (w.dropLast, true) else (w, false)
  | none => (w, false)
def doR (cs : List Cd) (quiet : Bool) : Rq := ⟨1, cs.map (fun c => { c with recache := -1 }), quiet, false, [], [], 0, false, []⟩
def Cd.zero : Cd := ⟨0, 0, [], [], 0, 0, false, 0, false, 0, 0, false, false, 0, 0, false⟩
def modeF (name : List UInt8) : Int := if name = [97, 100, 100] then 1 else if name = [114, 101, 112, 108, 97, 99, 101] then 2 else if name = [97, 112, 112, 101, 110, 100] then 3 else if name = [112, 114, 101, 112, 101, 110, 100] then 4 else 0
/-- get, gets, gat, gats -/
def getR (name : List UInt8) (w : List (List UInt8)) : Rd' :=
  let gat := ([103, 97, 116] : List UInt8).isPrefixOf name
  if gat && w.length < 2 then .fault f_unknown
  else if gat && !(secF (w.getD 0 [])).2 then .fault f_exptime
  else
    let keys := if gat then w.drop 1 else w
    if keys = [] then .fault f_unknown
    else if keys.all keyB then .got { doR (keys.map fun k => { Cd.zero with op := 1, key := k, exp := if gat then (secF (w.getD 0 [])).1 else 0, hasExp := gat }) false with tokens := name.getLast? == some 115 } false 0
    else .fault f_format
/-- set, add, replace, append, prepend, cas -/
def storeR (name : List UInt8) (w0 : List (List UInt8)) (behind : List UInt8) : Rd' :=
  let w := (offF w0).1
  let quiet := (offF w0).2
  let token := name == [99, 97, 115]
  if w.length ≠ (bif token then 5 else 4) then .fault f_unknown
  else match parseV (w.getD 3 []) with
  | none => .fault f_format
  | some n =>
    if 1073741824 < n then .fault f_format
    else
      let fl := parseV (w.getD 1 [])
      let ex := secF (w.getD 2 [])
      let cs := bif token then parseV (w.getD 4 []) else some 0
      let key := w.getD 0 []
      let size := n + 2
      if !keyB key || fl.isNone || decide (4294967295 < fl.getD 0) || !(ex.2 && cs.isSome) then .got { badR f_format with skip := size } false 0
      else if 65536 < n then .got { badR f_large with skip := size } false 0
      else if behind.length < size then .got Rq.zero true 0
      else if (behind.take size).drop n = [13, 10] then .got (doR [{ Cd.zero with op := 2, mode := modeF name, key := key, val := behind.take n, flags := fl.getD 0, exp := ex.1, hasCas := token, cas := cs.getD 0 }] quiet) false size
      else .got (badR b_chunk) false size
def okKey (s : List UInt8) (k : List UInt8 → Rd') : Rd' := if keyB s then k s else .fault f_format
/-- one of a line alone -/
def plainR (name : List UInt8) (w0 : List (List UInt8)) : Rd' :=
  let w := (offF w0).1
  let quiet := (offF w0).2
  if name = [105, 110, 99, 114] ∨ name = [100, 101, 99, 114] then
    if w.length ≠ 2 then .fault f_unknown
    else okKey (w.getD 0 []) fun key => match parseV (w.getD 1 []) with
      | none => .fault f_delta
      | some n => .got (doR [{ Cd.zero with op := 3, key := key, delta := n, down := name == [100, 101, 99, 114] }] quiet) false 0
  else if name = [116, 111, 117, 99, 104] then
    if w.length ≠ 2 then .fault f_unknown
    else okKey (w.getD 0 []) fun key => if (secF (w.getD 1 [])).2 then .got (doR [{ Cd.zero with op := 4, key := key, exp := (secF (w.getD 1 [])).1 }] quiet) false 0 else .fault f_exptime
  else if name = [100, 101, 108, 101, 116, 101] then
    if w.length = 0 ∨ 2 < w.length then .fault f_unknown
    else okKey (w.getD 0 []) fun key => if w.length = 1 ∨ w.getD 1 [] = [48] then .got (doR [{ Cd.zero with op := 5, key := key }] quiet) false 0 else .fault f_format
  else if name = [102, 108, 117, 115, 104, 95, 97, 108, 108] then
    if 1 < w.length then .fault f_unknown
    else if w.length = 1 then (if (secF (w.getD 0 [])).2 then .got (doR [{ Cd.zero with op := 6, exp := (secF (w.getD 0 [])).1 }] quiet) false 0 else .fault f_exptime)
    else .got (doR [{ Cd.zero with op := 6 }] quiet) false 0
  else if name = [118, 101, 114, 98, 111, 115, 105, 116, 121] then
    if w.length ≠ 1 then .fault f_unknown else .got { Rq.zero with kind := 4, quiet := quiet } false 0
  else if name = [118, 101, 114, 115, 105, 111, 110] then
    if w0.length ≠ 0 then .fault f_unknown else .got { Rq.zero with kind := 3 } false 0
  else if name = [113, 117, 105, 116] then
    if w0.length ≠ 0 then .fault f_unknown else .got { Rq.zero with kind := 6, close := true } false 0
  else if name = [115, 116, 97, 116, 115] then
    if 1 < w0.length then .fault f_unknown else .got { Rq.zero with kind := 5, arg := w0.getD 0 [] } false 0
  else .fault f_unknown
def readR (name : List UInt8) (w : List (List UInt8)) (behind : List UInt8) : Rd' :=
  if name = [103, 101, 116] ∨ name = [103, 101, 116, 115] ∨ name = [103, 97, 116] ∨ name = [103, 97, 116, 115] then getR name w
  else if name = [115, 101, 116] ∨ name = [97, 100, 100] ∨ name = [114, 101, 112, 108, 97, 99, 101] ∨ name = [97, 112, 112, 101, 110, 100] ∨ name = [112, 114, 101, 112, 101, 110, 100] ∨ name = [99, 97, 115] then storeR name w behind
  else plainR name w
/-- a line, and its length with its end -/
def lineV (b : List UInt8) : List UInt8 × Nat :=
  let l := b.takeWhile (· != 10)
  if l.length < b.length then ((if l.getLast? = some 13 then l.dropLast else l), l.length + 1) else ([], 0)
def endR (n : Nat) : Rd' → Rq × Int
  | .fault f => (badR f, n)
  | .got _ true _ => (Rq.zero, 0)
  | .got r false used => (r, n + used)
def lineR (n : Nat) (behind : List UInt8) : List (List UInt8) → Rq × Int
  | [] => (badR f_unknown, n)
  | name :: w => endR n (readR name w behind)
def tParse (b : List UInt8) : Rq × Int :=
  let s := lineV (b.take 2048)
  if s.2 = 0 then (if b.length < 2048 then (Rq.zero, 0) else ({ badR b_long with close := true }, 2048))
  else lineR s.2 (b.drop s.2) (wordsF (s.1.length + 1) s.1)
end Go.Proofs.YtlbbldcfkalhlaaGreatDoor
/- TextPieces: a request that is there is the same, whatever stands behind it. No program in sight. -/
namespace Go.Proofs.YtlbbldcfkalhlaaGreatDoor
set_option linter.unusedSimpArgs false
set_option linter.unusedVariables false
open Go.Lib

/-- a line that is there is there in all that goes on so -/
theorem lineV_pre {a r : List UInt8} (h : (lineV a).2 ≠ 0) : lineV (a ++ r) = lineV a ∧ (lineV a).2 ≤ a.length ∧ 0 < (lineV a).2 := by
  unfold lineV at h ⊢
  by_cases hl : (a.takeWhile (· != 10)).length < a.length
  · have he : (a ++ r).takeWhile (· != 10) = a.takeWhile (· != 10) := by
      have hd : a.takeWhile (· != 10) ++ a.dropWhile (· != 10) = a := List.takeWhile_append_dropWhile
      cases hdw : a.dropWhile (· != 10) with
      | nil => rw [hdw, List.append_nil] at hd; rw [hd] at hl; exact absurd hl (Nat.lt_irrefl _)
      | cons c t =>
        have hc : (c != 10) = false := by
          have := List.head?_dropWhile_not (· != 10) a
          rw [hdw] at this
          simpa using this
        rw [hdw] at hd
        rw [← hd, List.append_assoc, List.takeWhile_append_of_pos (fun x hx => List.all_eq_true.1 List.all_takeWhile x hx), List.cons_append, List.takeWhile_cons, hc]
        simp only [Bool.false_eq_true, if_false, List.append_nil]
        rw [List.takeWhile_append_of_pos (fun x hx => List.all_eq_true.1 List.all_takeWhile x hx), List.takeWhile_cons, hc]
        simp
    simp only [he]
    rw [if_pos hl, if_pos (by rw [List.length_append]; omega)]
    exact ⟨rfl, hl, Nat.succ_pos _⟩
  · rw [if_neg hl] at h; exact absurd rfl h
theorem store_pre {name : List UInt8} {w : List (List UInt8)} {a r : List UInt8} {q : Rq} {u : Int} (h : storeR name w a = .got q false u) : storeR name w (a ++ r) = .got q false u ∧ 0 ≤ u ∧ u ≤ (a.length : Int) := by
  unfold storeR at h ⊢
  simp only at h ⊢
  split at h
  · cases h
  rename_i hc
  rw [if_neg hc]
  split at h
  · cases h
  rename_i n hn
  split at h
  · cases h
  rename_i hd
  rw [if_neg hd]
  split at h
  · rename_i hb
    rw [if_pos hb]
    simp only [Rd'.got.injEq, true_and] at h
    obtain ⟨rfl, _, rfl⟩ := h
    exact ⟨rfl, Int.le_refl _, by omega⟩
  rename_i hb
  rw [if_neg hb]
  split at h
  · rename_i hm
    rw [if_pos hm]
    simp only [Rd'.got.injEq, true_and] at h
    obtain ⟨rfl, _, rfl⟩ := h
    exact ⟨rfl, Int.le_refl _, by omega⟩
  rename_i hm
  rw [if_neg hm]
  split at h
  · cases h
  rename_i hs
  have hs' : n + 2 ≤ a.length := by omega
  have e1 : (a ++ r).take (n + 2) = a.take (n + 2) := List.take_append_of_le_length hs'
  have e2 : (a ++ r).take n = a.take n := List.take_append_of_le_length (by omega)
  rw [if_neg (by rw [List.length_append]; omega), e1, e2]
  split at h
  · rename_i he
    rw [if_pos he]
    simp only [Rd'.got.injEq, true_and] at h
    obtain ⟨rfl, rfl⟩ := h
    exact ⟨rfl, by omega, by omega⟩
  · rename_i he
    rw [if_neg he]
    simp only [Rd'.got.injEq, true_and] at h
    obtain ⟨rfl, rfl⟩ := h
    exact ⟨rfl, by omega, by omega⟩
theorem get_used {name : List UInt8} {w : List (List UInt8)} {q : Rq} {u : Int} (h : getR name w = .got q false u) : u = 0 := by
  unfold getR at h
  simp only at h
  repeat' split at h
  all_goals first
    | cases h; done
    | (simp only [Rd'.got.injEq, true_and] at h; exact h.2.symm)
theorem plain_used {name : List UInt8} {w : List (List UInt8)} {q : Rq} {u : Int} (h : plainR name w = .got q false u) : u = 0 := by
  unfold plainR okKey at h
  simp only at h
  repeat' split at h
  all_goals first
    | cases h; done
    | (simp only [Rd'.got.injEq, true_and] at h; exact h.2.symm)
theorem read_pre {name : List UInt8} {w : List (List UInt8)} {a r : List UInt8} {q : Rq} {u : Int} (h : readR name w a = .got q false u) : readR name w (a ++ r) = .got q false u ∧ 0 ≤ u ∧ u ≤ (a.length : Int) := by
  unfold readR at h ⊢
  split at h
  · rename_i h1
    rw [if_pos h1]
    have := get_used h
    subst this
    exact ⟨h, Int.le_refl _, by omega⟩
  · rename_i h1
    rw [if_neg h1]
    split at h
    · rename_i h2
      rw [if_pos h2]
      exact store_pre h
    · rename_i h2
      rw [if_neg h2]
      have := plain_used h
      subst this
      exact ⟨h, Int.le_refl _, by omega⟩
theorem read_fault {name : List UInt8} {w : List (List UInt8)} {a b : List UInt8} {f : List UInt8} (h : readR name w a = .fault f) : readR name w b = .fault f := by
  unfold readR at h ⊢
  split at h
  · rename_i h1; rw [if_pos h1]; exact h
  · rename_i h1
    rw [if_neg h1]
    split at h
    · rename_i h2
      rw [if_pos h2]
      unfold storeR at h ⊢
      simp only at h ⊢
      split at h
      · rename_i hc; rw [if_pos hc]; exact h
      rename_i hc
      rw [if_neg hc]
      split at h
      · exact h
      split at h
      · rename_i hd; rw [if_pos hd]; exact h
      repeat' split at h
      all_goals cases h
    · rename_i h2; rw [if_neg h2]; exact h
/-- a request that is there is the same, whatever stands behind it -/
theorem parse_pre {a r : List UInt8} (h : (tParse a).1.kind ≠ 0) : tParse (a ++ r) = tParse a ∧ 0 < (tParse a).2 ∧ (tParse a).2 ≤ (a.length : Int) := by
  have htk : (a ++ r).take 2048 = a.take 2048 ++ r.take (2048 - a.length) := List.take_append
  by_cases hs : (lineV (a.take 2048)).2 = 0
  · have hl : ¬ a.length < 2048 := fun hl => h (by unfold tParse; simp only; rw [if_pos hs, if_pos hl]; rfl)
    have e : (a ++ r).take 2048 = a.take 2048 := by rw [htk, show 2048 - a.length = 0 by omega]; simp
    have e1 : tParse a = ({ badR b_long with close := true }, 2048) := by unfold tParse; simp only; rw [if_pos hs, if_neg hl]
    have e2 : tParse (a ++ r) = ({ badR b_long with close := true }, 2048) := by
      unfold tParse; simp only; rw [e, if_pos hs, if_neg (by rw [List.length_append]; omega)]
    rw [e1, e2]
    exact ⟨rfl, by decide, by show (2048 : Int) ≤ _; omega⟩
  · obtain ⟨p1, p2, p3⟩ := lineV_pre (r := r.take (2048 - a.length)) hs
    rw [← htk] at p1
    have p2' : (lineV (a.take 2048)).2 ≤ a.length := Nat.le_trans p2 (by rw [List.length_take]; omega)
    have hdr : (a ++ r).drop (lineV (a.take 2048)).2 = a.drop (lineV (a.take 2048)).2 ++ r := List.drop_append_of_le_length p2'
    have ea : tParse a = lineR (lineV (a.take 2048)).2 (a.drop (lineV (a.take 2048)).2) (wordsF ((lineV (a.take 2048)).1.length + 1) (lineV (a.take 2048)).1) := by
      unfold tParse; simp only; rw [if_neg hs]
    have eb : tParse (a ++ r) = lineR (lineV (a.take 2048)).2 (a.drop (lineV (a.take 2048)).2 ++ r) (wordsF ((lineV (a.take 2048)).1.length + 1) (lineV (a.take 2048)).1) := by
      unfold tParse; simp only; rw [p1, if_neg hs, hdr]
    rw [ea] at h
    rw [ea, eb]
    generalize wordsF ((lineV (a.take 2048)).1.length + 1) (lineV (a.take 2048)).1 = ws at h ⊢
    cases ws with
    | nil => exact ⟨rfl, by show (0 : Int) < ((lineV (a.take 2048)).2 : Int); omega, by show ((lineV (a.take 2048)).2 : Int) ≤ _; omega⟩
    | cons name w =>
      simp only [lineR] at h ⊢
      have hlen : (a.drop (lineV (a.take 2048)).2).length = a.length - (lineV (a.take 2048)).2 := List.length_drop
      cases hr : readR name w (a.drop (lineV (a.take 2048)).2) with
      | fault f =>
        rw [read_fault (b := a.drop (lineV (a.take 2048)).2 ++ r) hr]
        simp only [endR]
        exact ⟨trivial, by omega, by omega⟩
      | got q more u =>
        rw [hr] at h
        simp only [endR] at h
        cases more with
        | true => exact absurd rfl h
        | false =>
          obtain ⟨k1, k2, k3⟩ := read_pre (r := r) hr
          rw [k1]
          simp only [endR]
          exact ⟨trivial, by omega, by omega⟩
end Go.Proofs.YtlbbldcfkalhlaaGreatDoor
/- Lines of words with one blank between; TextKeys. No program in sight. -/
namespace Go.Proofs.YtlbbldcfkalhlaaGreatDoor
set_option linter.unusedSimpArgs false
set_option linter.unusedVariables false
open Go.Lib

/-- a word, and words behind it -/
def joinB (name : List UInt8) : List (List UInt8) → List UInt8
  | [] => name
  | k :: ks => name ++ 32 :: joinB k ks
/-- a word of a line: no blank, no line's end, no return at its end -/
structure LineWord (l : List UInt8) : Prop where
  word : isWord l
  nl : ∀ c ∈ l, c ≠ 10
  cr : l.getLast? ≠ some 13
theorem key_word {k : List UInt8} (h : keyB k = true) : LineWord k := by
  simp only [keyB, Bool.and_eq_true, Bool.not_eq_true', List.all_eq_true, decide_eq_true_eq] at h
  obtain ⟨⟨h1, h2⟩, _⟩ := h
  have ne : k ≠ [] := by intro e; rw [e] at h1; simp at h1
  have big : ∀ c ∈ k, 32 < c.toNat := fun c hc => (h2 c hc).1
  refine ⟨⟨ne, fun c hc e => ?_⟩, fun c hc e => ?_, fun e => ?_⟩
  · have := big c hc; rw [e] at this; exact absurd this (by decide)
  · have := big c hc; rw [e] at this; exact absurd this (by decide)
  · have := big 13 (List.mem_of_getLast? e); exact absurd this (by decide)
theorem joinB_len : ∀ (ks : List (List UInt8)) (name : List UInt8), LineWord name → (∀ k ∈ ks, LineWord k) → 2 * ks.length + 1 ≤ (joinB name ks).length
  | [], name, h, _ => by
    have := h.word.1
    cases name with
    | nil => exact absurd rfl this
    | cons c t => simp [joinB]
  | k :: ks, name, h, hk => by
    have := joinB_len ks k (hk k (by simp)) (fun x hx => hk x (by simp [hx]))
    have hn : 1 ≤ name.length := by
      cases name with
      | nil => exact absurd rfl h.word.1
      | cons c t => simp
    simp only [joinB, List.length_append, List.length_cons] at this ⊢
    omega
theorem joinB_words : ∀ (ks : List (List UInt8)) (name : List UInt8) (f : Nat), LineWord name → (∀ k ∈ ks, LineWord k) → ks.length + 2 ≤ f → wordsF f (joinB name ks) = name :: ks
  | [], name, f, h, _, hf => by
    obtain ⟨g, rfl⟩ : ∃ g, f = g + 2 := ⟨f - 2, by simp at hf; omega⟩
    exact words_last h.word g
  | k :: ks, name, f, h, hk, hf => by
    obtain ⟨g, rfl⟩ : ∃ g, f = g + 1 := ⟨f - 1, by omega⟩
    simp only [joinB]
    rw [words_cons h.word, joinB_words ks k g (hk k (by simp)) (fun x hx => hk x (by simp [hx])) (by simp at hf; omega)]
theorem joinB_nl : ∀ (ks : List (List UInt8)) (name : List UInt8), LineWord name → (∀ k ∈ ks, LineWord k) → ∀ c ∈ joinB name ks, c ≠ 10
  | [], name, h, _, c, hc => h.nl c hc
  | k :: ks, name, h, hk, c, hc => by
    simp only [joinB, List.mem_append, List.mem_cons] at hc
    rcases hc with hc | rfl | hc
    · exact h.nl c hc
    · decide
    · exact joinB_nl ks k (hk k (by simp)) (fun x hx => hk x (by simp [hx])) c hc
theorem joinB_ne (name : List UInt8) (h : name ≠ []) : ∀ ks, joinB name ks ≠ []
  | [] => h
  | k :: ks => by simp [joinB]
theorem joinB_cr : ∀ (ks : List (List UInt8)) (name : List UInt8), LineWord name → (∀ k ∈ ks, LineWord k) → (joinB name ks).getLast? ≠ some 13
  | [], name, h, _ => h.cr
  | k :: ks, name, h, hk => by
    have := joinB_cr ks k (hk k (by simp)) (fun x hx => hk x (by simp [hx]))
    have ne := joinB_ne k (hk k (by simp)).word.1 ks
    simp only [joinB]
    cases hj : joinB k ks with
    | nil => exact absurd hj ne
    | cons c t =>
      rw [hj] at this
      have e : (name ++ 32 :: c :: t).getLast? = (c :: t).getLast? := by
        rw [List.getLast?_append, List.getLast?_cons_cons]
        cases hq : (c :: t).getLast? with
        | none => simp at hq
        | some q => rfl
      rw [e]; exact this
/-- a line of such words, ended, with what stands behind -/
theorem lineV_words {name : List UInt8} {ks : List (List UInt8)} (h : LineWord name) (hk : ∀ k ∈ ks, LineWord k) (r : List UInt8) : lineV (joinB name ks ++ 10 :: r) = (joinB name ks, (joinB name ks).length + 1) := by
  have e : (joinB name ks ++ 10 :: r).takeWhile (· != 10) = joinB name ks := by
    rw [List.takeWhile_append_of_pos (fun x hx => by simpa using joinB_nl ks name h hk x hx)]
    simp
  unfold lineV
  simp only [e]
  rw [if_pos (by simp), if_neg (joinB_cr ks name h hk)]
theorem lineV_words' {name : List UInt8} {ks : List (List UInt8)} (h : LineWord name) (hk : ∀ k ∈ ks, LineWord k) (r : List UInt8) : lineV (joinB name ks ++ 13 :: 10 :: r) = (joinB name ks, (joinB name ks).length + 2) := by
  have e : (joinB name ks ++ 13 :: 10 :: r).takeWhile (· != 10) = joinB name ks ++ [13] := by
    rw [List.takeWhile_append_of_pos (fun x hx => by simpa using joinB_nl ks name h hk x hx)]
    simp
  unfold lineV
  simp only [e]
  rw [if_pos (by simp), if_pos (by simp)]
  simp
/-- a line of such words is read -/
theorem parse_words {name : List UInt8} {ks : List (List UInt8)} (h : LineWord name) (hk : ∀ k ∈ ks, LineWord k) (hl : (joinB name ks).length + 1 ≤ 2048) (r : List UInt8) : tParse (joinB name ks ++ 10 :: r) = endR ((joinB name ks).length + 1) (readR name ks r) := by
  have et : (joinB name ks ++ 10 :: r).take 2048 = joinB name ks ++ 10 :: r.take (2047 - (joinB name ks).length) := by
    rw [List.take_append, List.take_of_length_le (by omega)]
    obtain ⟨d, hd⟩ : ∃ d, 2048 - (joinB name ks).length = d + 1 := ⟨2047 - (joinB name ks).length, by omega⟩
    rw [hd, List.take_succ_cons, show 2047 - (joinB name ks).length = d by omega]
  unfold tParse
  simp only [et, lineV_words h hk]
  rw [if_neg (Nat.succ_ne_zero _), joinB_words ks name _ h hk (by have := joinB_len ks name h hk; omega)]
  have ed : (joinB name ks ++ 10 :: r).drop ((joinB name ks).length + 1) = r := by
    rw [List.drop_append]; simp
  rw [ed]; rfl
theorem parse_words' {name : List UInt8} {ks : List (List UInt8)} (h : LineWord name) (hk : ∀ k ∈ ks, LineWord k) (hl : (joinB name ks).length + 2 ≤ 2048) (r : List UInt8) : tParse (joinB name ks ++ 13 :: 10 :: r) = endR ((joinB name ks).length + 2) (readR name ks r) := by
  have et : (joinB name ks ++ 13 :: 10 :: r).take 2048 = joinB name ks ++ 13 :: 10 :: r.take (2046 - (joinB name ks).length) := by
    rw [List.take_append, List.take_of_length_le (by omega)]
    obtain ⟨d, hd⟩ : ∃ d, 2048 - (joinB name ks).length = d + 2 := ⟨2046 - (joinB name ks).length, by omega⟩
    rw [hd, List.take_succ_cons, List.take_succ_cons, show 2046 - (joinB name ks).length = d by omega]
  unfold tParse
  simp only [et, lineV_words' h hk]
  rw [if_neg (Nat.succ_ne_zero _), joinB_words ks name _ h hk (by have := joinB_len ks name h hk; omega)]
  have ed : (joinB name ks ++ 13 :: 10 :: r).drop ((joinB name ks).length + 2) = r := by
    rw [List.drop_append]; simp
  rw [ed]; rfl
/-! ### TextKeys -/
def getN (tokens : Bool) : List UInt8 := if tokens then [103, 101, 116, 115] else [103, 101, 116]
theorem getN_word (tokens : Bool) : LineWord (getN tokens) := by
  cases tokens <;> exact ⟨⟨by decide, by decide⟩, by decide, by decide⟩
def getKC (k : List UInt8) : Cd := ⟨1, 0, k, [], 0, 0, false, 0, false, 0, 0, false, false, 0, -1, false⟩
theorem read_get (tokens : Bool) (ks : List (List UInt8)) (r : List UInt8) : readR (getN tokens) ks r = if ks = [] then .fault f_unknown else if ks.all keyB then .got { doR (ks.map getKC) false with tokens := tokens } false 0 else .fault f_format := by
  unfold readR
  rw [if_pos (by cases tokens <;> simp [getN])]
  have e : (getN tokens).getLast? = if tokens then some 115 else some 116 := by cases tokens <;> rfl
  unfold getR
  cases tokens <;> simp [getN, List.isPrefixOf, doR, getKC, Cd.zero] <;> rfl
end Go.Proofs.YtlbbldcfkalhlaaGreatDoor
/- TextNumbers: numbers of a line are what the command has. No program in sight. -/
namespace Go.Proofs.YtlbbldcfkalhlaaGreatDoor
set_option linter.unusedSimpArgs false
set_option linter.unusedVariables false
open Go.Lib

theorem dec_line (u : Nat) : LineWord (decDigits u) := by
  have hd : ∀ c ∈ decDigits u, dgt c = true := fun c hc => List.all_eq_true.1 (allDgt_dec u) c hc
  have big : ∀ c ∈ decDigits u, 48 ≤ c.toNat := fun c hc => by
    have := hd c hc
    simp only [dgt, Bool.and_eq_true, decide_eq_true_eq] at this
    exact this.1
  refine ⟨isWord_dec u, fun c hc e => ?_, fun e => ?_⟩
  · have := big c hc; rw [e] at this; exact absurd this (by decide)
  · have := big 13 (List.mem_of_getLast? e); exact absurd this (by decide)
/-- a number's text, perhaps below 0 -/
def secText (n : Int) : List UInt8 := if n < 0 then 45 :: decDigits (-n).toNat else decDigits n.toNat
theorem sec_line (n : Int) : LineWord (secText n) := by
  unfold secText
  split
  · have h := dec_line (-n).toNat
    refine ⟨⟨by simp, fun c hc => ?_⟩, fun c hc => ?_, ?_⟩
    · rcases List.mem_cons.1 hc with rfl | hc
      · decide
      · exact h.word.2 c hc
    · rcases List.mem_cons.1 hc with rfl | hc
      · decide
      · exact h.nl c hc
    · have hne := h.word.1
      cases hd : decDigits (-n).toNat with
      | nil => exact absurd hd hne
      | cons c t => rw [List.getLast?_cons_cons, ← hd]; exact h.cr
  · exact dec_line _
theorem sec_val {n : Int} (h0 : -1099511627776 ≤ n) (h1 : n ≤ 1099511627776) : secF (secText n) = (n, true) := by
  have hn : nearB n = true := by simp [nearB]; omega
  unfold secF secText
  by_cases h : n < 0
  · rw [if_pos h, signedV_dash_lo _ (by omega)]
    simp only
    rw [show -(((-n).toNat : Nat) : Int) = n by omega, hn]
  · rw [if_neg h, signedV_dec_lo _ (by omega)]
    simp only
    rw [show ((n.toNat : Nat) : Int) = n by omega, hn]
theorem dec_not (u : Nat) : decDigits u ≠ b_noreply := by
  intro e
  have := allDgt_dec u
  rw [e] at this
  exact absurd this (by decide)
theorem sec_not (n : Int) : secText n ≠ b_noreply := by
  unfold secText
  split
  · intro e; exact absurd (congrArg List.head? e) (by simp [b_noreply])
  · exact dec_not _
/-- so many words, and noreply -/
def withQ (w : List (List UInt8)) (quiet : Bool) : List (List UInt8) := if quiet then w ++ [b_noreply] else w
theorem off_with {w : List (List UInt8)} {x : List UInt8} (quiet : Bool) (h : x ≠ b_noreply) : offF (withQ (w ++ [x]) quiet) = (w ++ [x], quiet) := by
  cases quiet with
  | true => simp [withQ, offF]
  | false => simp [withQ, offF, h]
theorem nr_line : LineWord b_noreply := ⟨⟨by decide, by decide⟩, by decide, by decide⟩
theorem read_incr {key : List UInt8} (hk : keyB key = true) (n : Nat) (hn : n < 18446744073709551616) (quiet : Bool) (r : List UInt8) :
    readR [105, 110, 99, 114] (withQ [key, decDigits n] quiet) r = .got (doR [{ Cd.zero with op := 3, key := key, delta := n, down := false }] quiet) false 0 := by
  have ho := off_with (w := [key]) (x := decDigits n) quiet (dec_not n)
  simp only [List.cons_append, List.nil_append] at ho
  simp [readR, plainR, ho, okKey, hk, parseV_dec n hn]
theorem read_decr {key : List UInt8} (hk : keyB key = true) (n : Nat) (hn : n < 18446744073709551616) (quiet : Bool) (r : List UInt8) :
    readR [100, 101, 99, 114] (withQ [key, decDigits n] quiet) r = .got (doR [{ Cd.zero with op := 3, key := key, delta := n, down := true }] quiet) false 0 := by
  have ho := off_with (w := [key]) (x := decDigits n) quiet (dec_not n)
  simp only [List.cons_append, List.nil_append] at ho
  simp [readR, plainR, ho, okKey, hk, parseV_dec n hn]
theorem read_touch {key : List UInt8} (hk : keyB key = true) {n : Int} (h0 : -1099511627776 ≤ n) (h1 : n ≤ 1099511627776) (quiet : Bool) (r : List UInt8) :
    readR [116, 111, 117, 99, 104] (withQ [key, secText n] quiet) r = .got (doR [{ Cd.zero with op := 4, key := key, exp := n }] quiet) false 0 := by
  have ho := off_with (w := [key]) (x := secText n) quiet (sec_not n)
  simp only [List.cons_append, List.nil_append] at ho
  simp [readR, plainR, ho, okKey, hk, sec_val h0 h1]
theorem read_flush {n : Int} (h0 : -1099511627776 ≤ n) (h1 : n ≤ 1099511627776) (quiet : Bool) (r : List UInt8) :
    readR [102, 108, 117, 115, 104, 95, 97, 108, 108] (withQ [secText n] quiet) r = .got (doR [{ Cd.zero with op := 6, exp := n }] quiet) false 0 := by
  have ho := off_with (w := []) (x := secText n) quiet (sec_not n)
  simp only [List.nil_append] at ho
  simp [readR, plainR, ho, sec_val h0 h1]
theorem read_gat {key : List UInt8} (hk : keyB key = true) {n : Int} (h0 : -1099511627776 ≤ n) (h1 : n ≤ 1099511627776) (r : List UInt8) :
    readR [103, 97, 116] [secText n, key] r = .got (doR [{ Cd.zero with op := 1, key := key, exp := n, hasExp := true }] false) false 0 := by
  simp [readR, getR, List.isPrefixOf, hk, sec_val h0 h1, doR]
end Go.Proofs.YtlbbldcfkalhlaaGreatDoor
/- TextGets: what is got is told with its bytes. No program in sight. -/
namespace Go.Proofs.YtlbbldcfkalhlaaGreatDoor
set_option linter.unusedSimpArgs false
set_option linter.unusedVariables false
open Go.Lib

def b_value : List UInt8 := [86, 65, 76, 85, 69]
def b_end : List UInt8 := [69, 78, 68, 13, 10]
/-- the words of an item's line, behind the first -/
def itW (tokens : Bool) (x : It) : List (List UInt8) := if tokens then [x.key, decDigits x.flags.toNat, decDigits x.val.length, decDigits x.cas.toNat] else [x.key, decDigits x.flags.toNat, decDigits x.val.length]
def itTold (tokens : Bool) (x : It) : List UInt8 := joinB b_value (itW tokens x) ++ [13, 10] ++ x.val ++ [13, 10]
/-- what is told of answers -/
def valuesF (tokens : Bool) : List An → List UInt8
  | [] => b_end
  | a :: l => if a.st = 1 then itTold tokens a.it ++ valuesF tokens l else valuesF tokens l
theorem value_word : LineWord b_value := ⟨⟨by decide, by decide⟩, by decide, by decide⟩
theorem itW_words {tokens : Bool} {x : It} (hk : keyB x.key = true) : ∀ k ∈ itW tokens x, LineWord k := by
  unfold itW
  intro k hk'
  split at hk' <;> simp only [List.mem_cons, List.not_mem_nil, or_false] at hk'
  · rcases hk' with rfl | rfl | rfl | rfl
    · exact key_word hk
    · exact dec_line _
    · exact dec_line _
    · exact dec_line _
  · rcases hk' with rfl | rfl | rfl
    · exact key_word hk
    · exact dec_line _
    · exact dec_line _
/-- one item is read back -/
theorem told_line {tokens : Bool} {x : It} (hk : keyB x.key = true) (r : List UInt8) :
    lineV (itTold tokens x ++ r) = (joinB b_value (itW tokens x), (joinB b_value (itW tokens x)).length + 2) ∧
    wordsF ((joinB b_value (itW tokens x)).length + 1) (joinB b_value (itW tokens x)) = b_value :: itW tokens x ∧
    ((itTold tokens x ++ r).drop ((joinB b_value (itW tokens x)).length + 2)).take (x.val.length + 2) = x.val ++ [13, 10] ∧
    (itTold tokens x ++ r).drop ((joinB b_value (itW tokens x)).length + 2 + (x.val.length + 2)) = r ∧
    (joinB b_value (itW tokens x)).length + 2 + (x.val.length + 2) ≤ (itTold tokens x ++ r).length := by
  have e : itTold tokens x ++ r = joinB b_value (itW tokens x) ++ 13 :: 10 :: (x.val ++ [13, 10] ++ r) := by simp [itTold]
  have hw := itW_words (tokens := tokens) hk
  have ed : (joinB b_value (itW tokens x) ++ 13 :: 10 :: (x.val ++ [13, 10] ++ r)).drop ((joinB b_value (itW tokens x)).length + 2) = x.val ++ [13, 10] ++ r := by
    rw [List.drop_append]; simp
  refine ⟨by rw [e]; exact lineV_words' value_word hw _, joinB_words _ _ _ value_word hw (by have := joinB_len _ _ value_word hw; omega), ?_, ?_, ?_⟩
  · rw [e, ed]
    exact List.take_left' (by simp)
  · rw [e, ← List.drop_drop, ed]
    exact List.drop_left' (by simp)
  · rw [e]; simp; omega
end Go.Proofs.YtlbbldcfkalhlaaGreatDoor
/- The lines of TextNumbers, read. No program in sight. -/
namespace Go.Proofs.YtlbbldcfkalhlaaGreatDoor
set_option linter.unusedSimpArgs false
set_option linter.unusedVariables false
open Go.Lib

def enQ (quiet : Bool) : List UInt8 := if quiet then [32, 110, 111, 114, 101, 112, 108, 121, 13, 10] else [13, 10]
theorem lw1 {x : List UInt8} (h : LineWord x) : ∀ k ∈ [x], LineWord k := fun k hm => by rw [List.mem_singleton.1 hm]; exact h
theorem lw2 {x y : List UInt8} (h : LineWord x) (h' : LineWord y) : ∀ k ∈ [x, y], LineWord k := fun k hm => by
  rcases List.mem_cons.1 hm with rfl | hm
  · exact h
  · exact lw1 h' k hm
theorem secText_len {n : Int} (h0 : -1099511627776 ≤ n) (h1 : n ≤ 1099511627776) : (secText n).length ≤ 21 := by
  unfold secText
  split
  · have := dec_len_le (-n).toNat (by omega)
    simp only [List.length_cons]; omega
  · have := dec_len_le n.toNat (by omega)
    omega
theorem lineQ (name : List UInt8) (ks : List (List UInt8)) (quiet : Bool) (h : LineWord name) (hk : ∀ k ∈ ks, LineWord k) (hl : (joinB name ks).length ≤ 2000) {r : Rq} (hr : readR name (withQ ks quiet) [] = .got r false 0) : tParse (joinB name ks ++ enQ quiet) = (r, (((joinB name (withQ ks quiet)).length + 2 : Nat) : Int) + 0) := by
  have e : joinB name ks ++ enQ quiet = joinB name (withQ ks quiet) ++ 13 :: 10 :: [] := by
    cases quiet with
    | false => rfl
    | true =>
      show joinB name ks ++ _ = joinB name (ks ++ [b_noreply]) ++ _
      clear hr hl hk h
      induction ks generalizing name with
      | nil => simp [joinB, enQ, b_noreply]
      | cons k ks ih => simpa [joinB] using ih k
  have hl2 : (joinB name (withQ ks quiet)).length ≤ (joinB name ks).length + 8 := by
    have := congrArg List.length e
    simp only [List.length_append, List.length_cons, List.length_nil] at this
    have h2 : (enQ quiet).length ≤ 10 := by cases quiet <;> simp [enQ]
    omega
  have hk' : ∀ k ∈ withQ ks quiet, LineWord k := by
    intro k hm
    cases quiet with
    | false => exact hk k hm
    | true =>
      rcases List.mem_append.1 hm with hm | hm
      · exact hk k hm
      · rw [List.mem_singleton.1 hm]; exact nr_line
  rw [e, parse_words' h hk' (by omega) [], hr]
  rfl
section
variable {key : List UInt8} (hk : keyB key = true)
include hk
theorem key_le : key.length ≤ 250 := by
  simp only [keyB, Bool.and_eq_true, decide_eq_true_eq] at hk
  exact hk.2
theorem ps_incr {n : Int} (n0 : 0 ≤ n) (n1 : n < 18446744073709551616) (quiet : Bool) : ∃ L : Int, tParse ([105, 110, 99, 114, 32] ++ key ++ [32] ++ decDigits n.toNat ++ enQ quiet) = (doR [{ Cd.zero with op := 3, key := key, delta := n, down := false }] quiet, L) := by
  have hn : n.toNat < 18446744073709551616 := by omega
  have h := lineQ [105, 110, 99, 114] [key, decDigits n.toNat] quiet ⟨⟨by decide, by decide⟩, by decide, by decide⟩ (lw2 (key_word hk) (dec_line _)) (by have := key_le hk; have := dec_len_le _ hn; simp [joinB]; omega) (read_incr hk n.toNat hn quiet [])
  rw [show ((n.toNat : Nat) : Int) = n by omega] at h
  refine ⟨_, Eq.trans ?_ h⟩
  simp [joinB]
theorem ps_decr {n : Int} (n0 : 0 ≤ n) (n1 : n < 18446744073709551616) (quiet : Bool) : ∃ L : Int, tParse ([100, 101, 99, 114, 32] ++ key ++ [32] ++ decDigits n.toNat ++ enQ quiet) = (doR [{ Cd.zero with op := 3, key := key, delta := n, down := true }] quiet, L) := by
  have hn : n.toNat < 18446744073709551616 := by omega
  have h := lineQ [100, 101, 99, 114] [key, decDigits n.toNat] quiet ⟨⟨by decide, by decide⟩, by decide, by decide⟩ (lw2 (key_word hk) (dec_line _)) (by have := key_le hk; have := dec_len_le _ hn; simp [joinB]; omega) (read_decr hk n.toNat hn quiet [])
  rw [show ((n.toNat : Nat) : Int) = n by omega] at h
  refine ⟨_, Eq.trans ?_ h⟩
  simp [joinB]
theorem ps_touch {n : Int} (n0 : -1099511627776 ≤ n) (n1 : n ≤ 1099511627776) (quiet : Bool) : ∃ L : Int, tParse ([116, 111, 117, 99, 104, 32] ++ key ++ [32] ++ secText n ++ enQ quiet) = (doR [{ Cd.zero with op := 4, key := key, exp := n }] quiet, L) := by
  have h := lineQ [116, 111, 117, 99, 104] [key, secText n] quiet ⟨⟨by decide, by decide⟩, by decide, by decide⟩ (lw2 (key_word hk) (sec_line _)) (by have := key_le hk; have := secText_len n0 n1; simp [joinB]; omega) (read_touch hk n0 n1 quiet [])
  refine ⟨_, Eq.trans ?_ h⟩
  simp [joinB]
theorem ps_gat {n : Int} (n0 : -1099511627776 ≤ n) (n1 : n ≤ 1099511627776) : ∃ L : Int, tParse ([103, 97, 116, 32] ++ secText n ++ [32] ++ key ++ [13, 10]) = (doR [{ Cd.zero with op := 1, key := key, exp := n, hasExp := true }] false, L) := by
  have h := lineQ [103, 97, 116] [secText n, key] false ⟨⟨by decide, by decide⟩, by decide, by decide⟩ (lw2 (sec_line _) (key_word hk)) (by have := key_le hk; have := secText_len n0 n1; simp [joinB]; omega) (read_gat hk n0 n1 [])
  refine ⟨_, Eq.trans ?_ h⟩
  simp [joinB, enQ]
end
theorem ps_flush {n : Int} (n0 : -1099511627776 ≤ n) (n1 : n ≤ 1099511627776) (quiet : Bool) : ∃ L : Int, tParse ([102, 108, 117, 115, 104, 95, 97, 108, 108, 32] ++ secText n ++ enQ quiet) = (doR [{ Cd.zero with op := 6, exp := n }] quiet, L) := by
  have h := lineQ [102, 108, 117, 115, 104, 95, 97, 108, 108] [secText n] quiet ⟨⟨by decide, by decide⟩, by decide, by decide⟩ (lw1 (sec_line _)) (by have := secText_len n0 n1; simp [joinB]; omega) (read_flush n0 n1 quiet [])
  refine ⟨_, Eq.trans ?_ h⟩
  simp [joinB]
end Go.Proofs.YtlbbldcfkalhlaaGreatDoor
/- TextStores: a store that is written is read as it was meant. No program in sight. -/
namespace Go.Proofs.YtlbbldcfkalhlaaGreatDoor
set_option linter.unusedSimpArgs false
set_option linter.unusedVariables false
open Go.Lib

/-- the names that store -/
def stN : Nat → List UInt8
  | 0 => [115, 101, 116]
  | 1 => [97, 100, 100]
  | 2 => [114, 101, 112, 108, 97, 99, 101]
  | 3 => [97, 112, 112, 101, 110, 100]
  | 4 => [112, 114, 101, 112, 101, 110, 100]
  | _ => [99, 97, 115]
theorem stN_line (i : Nat) : LineWord (stN i) := by
  unfold stN
  split <;> exact ⟨⟨by decide, by decide⟩, by decide, by decide⟩
def stMode (i : Nat) : Int := if i < 5 then (i : Int) else 0
/-- the words behind the name -/
def stW (i : Nat) (key : List UInt8) (fl : Nat) (exp : Int) (len cas : Nat) : List (List UInt8) := if i < 5 then [key, decDigits fl, secText exp, decDigits len] else [key, decDigits fl, secText exp, decDigits len, decDigits cas]
def stC (i : Nat) (key val : List UInt8) (fl : Nat) (exp : Int) (cas : Nat) : Cd := { Cd.zero with op := 2, mode := stMode i, key := key, val := val, flags := fl, exp := exp, hasCas := decide (5 ≤ i), cas := if i < 5 then 0 else cas }
theorem off_st (i : Nat) (key : List UInt8) (fl : Nat) (exp : Int) (len cas : Nat) (quiet : Bool) : offF (withQ (stW i key fl exp len cas) quiet) = (stW i key fl exp len cas, quiet) := by
  unfold stW
  split
  · exact off_with (w := [key, decDigits fl, secText exp]) quiet (dec_not len)
  · exact off_with (w := [key, decDigits fl, secText exp, decDigits len]) quiet (dec_not cas)
theorem read_store (i : Nat) {key : List UInt8} (hk : keyB key = true) (fl : Nat) (hf : fl < 4294967296) {exp : Int} (h0 : -1099511627776 ≤ exp) (h1 : exp ≤ 1099511627776) (len : Nat) (hl : len ≤ 65536) (cas : Nat) (hc : cas < 18446744073709551616) (quiet : Bool) (b : List UInt8) :
    readR (stN i) (withQ (stW i key fl exp len cas) quiet) b =
      if b.length < len + 2 then .got Rq.zero true 0
      else if (b.take (len + 2)).drop len = [13, 10] then .got (doR [stC i key (b.take len) fl exp cas] quiet) false ((len + 2 : Nat) : Int) else .got (badR b_chunk) false ((len + 2 : Nat) : Int) := by
  have ho := off_st i key fl exp len cas quiet
  have hpl := parseV_dec len (by omega)
  have hpf := parseV_dec fl (by omega)
  have hpc := parseV_dec cas hc
  have hs := sec_val h0 h1
  have g1 : ¬ 1073741824 < len := by omega
  have g2 : ¬ 65536 < len := by omega
  have g3 : ¬ 4294967295 < fl := by omega
  have rd : readR (stN i) (withQ (stW i key fl exp len cas) quiet) b = storeR (stN i) (withQ (stW i key fl exp len cas) quiet) b := by
    unfold readR
    rw [if_neg (by unfold stN; split <;> decide), if_pos (by unfold stN; split <;> decide)]
  rw [rd]
  unfold storeR
  simp only [ho]
  by_cases hi : i < 5
  · have ht : (stN i == [99, 97, 115]) = false := by
      have : i = 0 ∨ i = 1 ∨ i = 2 ∨ i = 3 ∨ i = 4 := by omega
      rcases this with rfl | rfl | rfl | rfl | rfl <;> decide
    have hm : modeF (stN i) = (i : Int) := by
      have : i = 0 ∨ i = 1 ∨ i = 2 ∨ i = 3 ∨ i = 4 := by omega
      rcases this with rfl | rfl | rfl | rfl | rfl <;> decide
    have hw : stW i key fl exp len cas = [key, decDigits fl, secText exp, decDigits len] := if_pos hi
    simp [ht, hw, hpl, hpf, hs, hk, g1, g2, g3, stC, stMode, hi, hm, show ¬ 5 ≤ i by omega]
  · have hN : stN i = [99, 97, 115] := by
      unfold stN
      split <;> first | omega | rfl
    have hw : stW i key fl exp len cas = [key, decDigits fl, secText exp, decDigits len, decDigits cas] := if_neg hi
    have hm : modeF [99, 97, 115] = 0 := by decide
    simp [hN, hw, hpl, hpf, hpc, hs, hk, g1, g2, g3, stC, stMode, hi, hm, show 5 ≤ i by omega]
end Go.Proofs.YtlbbldcfkalhlaaGreatDoor
/- The texts of TextStores, read. No program in sight. -/
namespace Go.Proofs.YtlbbldcfkalhlaaGreatDoor
set_option linter.unusedSimpArgs false
set_option linter.unusedVariables false
open Go.Lib

theorem join_B : ∀ (ks : List (List UInt8)) (name : List UInt8), Lib.join (name :: ks) [32] = joinB name ks
  | [], name => by simp [Lib.join, joinB]
  | k :: ks, name => by
    have := join_B ks k
    simp only [Lib.join] at this ⊢
    rw [List.intercalate_cons_cons, this]; simp [joinB]
theorem stW_line {i : Nat} {key : List UInt8} (hk : keyB key = true) (fl : Nat) (exp : Int) (len cas : Nat) (quiet : Bool) : ∀ k ∈ withQ (stW i key fl exp len cas) quiet, LineWord k := by
  have h1 : ∀ k ∈ stW i key fl exp len cas, LineWord k := by
    intro k hm
    unfold stW at hm
    split at hm <;> simp only [List.mem_cons, List.not_mem_nil, or_false] at hm
    · rcases hm with rfl | rfl | rfl | rfl
      · exact key_word hk
      · exact dec_line _
      · exact sec_line _
      · exact dec_line _
    · rcases hm with rfl | rfl | rfl | rfl | rfl
      · exact key_word hk
      · exact dec_line _
      · exact sec_line _
      · exact dec_line _
      · exact dec_line _
  intro k hm
  cases quiet with
  | false => exact h1 k hm
  | true =>
    rcases List.mem_append.1 hm with hm | hm
    · exact h1 k hm
    · rw [List.mem_singleton.1 hm]; exact nr_line
theorem stN_len (i : Nat) : (stN i).length ≤ 7 := by unfold stN; split <;> decide
section
variable {i : Nat} {key val : List UInt8} {fl cas : Nat} {exp : Int} (hk : keyB key = true) (hf : fl < 4294967296) (h0 : -1099511627776 ≤ exp) (h1 : exp ≤ 1099511627776) (hv : val.length ≤ 65536) (hc : cas < 18446744073709551616) (quiet : Bool)
/-- the line of a store -/
def stJ (i : Nat) (key val : List UInt8) (fl : Nat) (exp : Int) (cas : Nat) (quiet : Bool) : List UInt8 := joinB (stN i) (withQ (stW i key fl exp val.length cas) quiet)
/-- a store that is written -/
def stB (i : Nat) (key val : List UInt8) (fl : Nat) (exp : Int) (cas : Nat) (quiet : Bool) : List UInt8 := stJ i key val fl exp cas quiet ++ [13, 10] ++ val ++ [13, 10]
theorem st_len (i : Nat) (key val : List UInt8) (fl : Nat) (exp : Int) (cas : Nat) (quiet : Bool) : (stB i key val fl exp cas quiet).length = (stJ i key val fl exp cas quiet).length + val.length + 4 := by
  simp only [stB, List.length_append, List.length_cons, List.length_nil]; omega
theorem st_take (i : Nat) (key val : List UInt8) (fl : Nat) (exp : Int) (cas : Nat) (quiet : Bool) : (stB i key val fl exp cas quiet).take ((stB i key val fl exp cas quiet).length - 1) = stJ i key val fl exp cas quiet ++ [13, 10] ++ (val ++ [13]) := by
  have e : stB i key val fl exp cas quiet = (stJ i key val fl exp cas quiet ++ [13, 10] ++ (val ++ [13])) ++ [10] := by unfold stB; simp
  rw [e]
  exact List.take_left' (by simp)
include hk hf h0 h1 hv hc
theorem stJ_len : (stJ i key val fl exp cas quiet).length ≤ 400 := by
  have a1 := key_le hk
  have a2 := dec_len_le fl (by omega)
  have a3 := dec_len_le cas hc
  have a4 := dec_len_le val.length (by omega)
  have a5 := secText_len h0 h1
  have a6 := stN_len i
  unfold stJ stW
  split <;> cases quiet <;> simp only [withQ, if_true, Bool.false_eq_true, if_false, List.cons_append, List.nil_append, joinB, List.length_append, List.length_cons, b_noreply, List.length_nil] <;> omega
theorem st_parse (r : List UInt8) : tParse (stJ i key val fl exp cas quiet ++ [13, 10] ++ r) = endR ((stJ i key val fl exp cas quiet).length + 2) (if r.length < val.length + 2 then .got Rq.zero true 0
      else if (r.take (val.length + 2)).drop val.length = [13, 10] then .got (doR [stC i key (r.take val.length) fl exp cas] quiet) false ((val.length + 2 : Nat) : Int) else .got (badR b_chunk) false ((val.length + 2 : Nat) : Int)) := by
  have hl := stJ_len (i := i) hk hf h0 h1 hv hc quiet
  have := parse_words' (stN_line i) (stW_line (i := i) hk fl exp val.length cas quiet) (by have : (joinB (stN i) (withQ (stW i key fl exp val.length cas) quiet)).length ≤ 400 := hl; omega) r
  rw [read_store i hk fl hf h0 h1 val.length hv cas hc quiet r] at this
  refine Eq.trans ?_ this
  unfold stJ
  simp
theorem ps_st1 : tParse (stB i key val fl exp cas quiet ++ [103, 101, 116]) = (doR [stC i key val fl exp cas] quiet, (((stB i key val fl exp cas quiet).length : Nat) : Int)) := by
  have h := st_parse (i := i) hk hf h0 h1 hv hc quiet (val ++ ([13, 10] ++ [103, 101, 116]))
  rw [if_neg (by simp), if_pos (by rw [List.take_append, List.take_of_length_le (by omega), List.drop_append]; simp), List.take_left' rfl] at h
  rw [st_len]
  have e : stB i key val fl exp cas quiet ++ [103, 101, 116] = stJ i key val fl exp cas quiet ++ [13, 10] ++ (val ++ ([13, 10] ++ [103, 101, 116])) := by unfold stB; simp
  rw [e, h]
  simp only [endR, Prod.mk.injEq, true_and]
  omega
theorem ps_st2 : tParse (stJ i key val fl exp cas quiet ++ [13, 10] ++ (val ++ [13])) = (Rq.zero, 0) := by
  rw [st_parse hk hf h0 h1 hv hc quiet, if_pos (by simp)]
  rfl
theorem ps_st3 : tParse (stJ i key val fl exp cas quiet ++ [13, 10] ++ (val ++ [13]) ++ [120]) = (badR b_chunk, (((stB i key val fl exp cas quiet).length : Nat) : Int)) := by
  have h := st_parse (i := i) hk hf h0 h1 hv hc quiet (val ++ [13, 120])
  rw [if_neg (by simp), if_neg (by rw [List.take_of_length_le (by simp), List.drop_append]; simp)] at h
  rw [st_len]
  have e : stJ i key val fl exp cas quiet ++ [13, 10] ++ (val ++ [13]) ++ [120] = stJ i key val fl exp cas quiet ++ [13, 10] ++ (val ++ [13, 120]) := by simp
  rw [e, h]
  simp only [endR, Prod.mk.injEq, true_and]
  omega
end
end Go.Proofs.YtlbbldcfkalhlaaGreatDoor
