/- Plain laws on decimal texts: when a text is some digits, the number that it says, and how the library's reader and its own reference answer. No program in sight. -/
import Derived.Lib.SlTrimSet
import Derived.Lib.ParseIntB
import Derived.Lib.ItoaNum
import Derived.WalkKit
import Derived.Lib.Bytealg
import Derived.Lib.ParseIntBCases
import Derived.Lib.Strings
import Derived.Lib.IndexMore
import Derived.Lib.IndexBytes
namespace Go.Proofs.YtehfcboiimdkbaaGreatDoor
set_option linter.unusedSimpArgs false
set_option linter.unusedVariables false
def dgt (c : UInt8) : Bool := decide (48 ≤ c.toNat) && decide (c.toNat ≤ 57)
def allDgt (l : List UInt8) : Bool := l.all dgt
def valFrom (a : Nat) (l : List UInt8) : Nat := l.foldl (fun n c => 10 * n + (c.toNat - 48)) a
def valOf (l : List UInt8) : Nat := valFrom 0 l
theorem valFrom_cons (a : Nat) (c : UInt8) (l : List UInt8) : valFrom a (c :: l) = valFrom (10 * a + (c.toNat - 48)) l := by unfold valFrom; rw [List.foldl_cons]
theorem valFrom_ge (l : List UInt8) : ∀ a, a ≤ valFrom a l := by
  induction l with
  | nil => intro a; exact Nat.le_refl _
  | cons c l ih => intro a; rw [valFrom_cons]; exact Nat.le_trans (by omega) (ih _)
theorem drop_nil (p : UInt8 → Bool) (l : List UInt8) : l.dropWhile p = [] ↔ l.all p = true := by
  induction l with
  | nil => simp
  | cons a l ih =>
    rw [List.dropWhile_cons]
    by_cases h : p a = true
    · rw [if_pos h, ih, List.all_cons, h, Bool.true_and]
    · rw [if_neg h]; simp [h]
theorem all_drop (p : UInt8 → Bool) (l : List UInt8) : (l.dropWhile p).all p = l.all p := by
  induction l with
  | nil => rfl
  | cons a l ih =>
    rw [List.dropWhile_cons]
    by_cases h : p a = true
    · rw [if_pos h, ih, List.all_cons, h, Bool.true_and]
    · rw [if_neg h]
theorem trimS_nil (l cs : List UInt8) : (Go.Lib.trimS l cs = []) ↔ l.all (cs.contains ·) = true := by
  unfold Go.Lib.trimS Go.Lib.trimLeftS Go.Lib.trimRightS
  rw [drop_nil, List.all_reverse, all_drop, List.all_reverse]
def tenDgts : List UInt8 := [48, 49, 50, 51, 52, 53, 54, 55, 56, 57]
theorem ten_dgt (c : UInt8) : tenDgts.contains c = dgt c := by
  unfold tenDgts dgt
  rw [Bool.eq_iff_iff]
  simp only [List.contains_eq_mem, List.mem_cons, List.mem_nil_iff, or_false, decide_eq_true_eq, Bool.and_eq_true]
  constructor
  · rintro (rfl | rfl | rfl | rfl | rfl | rfl | rfl | rfl | rfl | rfl) <;> decide
  · intro ⟨h1, h2⟩
    have : c.toNat = 48 ∨ c.toNat = 49 ∨ c.toNat = 50 ∨ c.toNat = 51 ∨ c.toNat = 52 ∨ c.toNat = 53 ∨ c.toNat = 54 ∨ c.toNat = 55 ∨ c.toNat = 56 ∨ c.toNat = 57 := by omega
    have e : ∀ k : UInt8, c.toNat = k.toNat → c = k := fun k h => UInt8.toNat_inj.1 h
    rcases this with h | h | h | h | h | h | h | h | h | h
    · exact .inl (e 48 h)
    · exact .inr (.inl (e 49 h))
    · exact .inr (.inr (.inl (e 50 h)))
    · exact .inr (.inr (.inr (.inl (e 51 h))))
    · exact .inr (.inr (.inr (.inr (.inl (e 52 h)))))
    · exact .inr (.inr (.inr (.inr (.inr (.inl (e 53 h))))))
    · exact .inr (.inr (.inr (.inr (.inr (.inr (.inl (e 54 h)))))))
    · exact .inr (.inr (.inr (.inr (.inr (.inr (.inr (.inl (e 55 h))))))))
    · exact .inr (.inr (.inr (.inr (.inr (.inr (.inr (.inr (.inl (e 56 h)))))))))
    · exact .inr (.inr (.inr (.inr (.inr (.inr (.inr (.inr (.inr (e 57 h)))))))))
theorem trim_digits (l : List UInt8) : (Go.Lib.trimS l tenDgts).isEmpty = allDgt l := by
  rw [Bool.eq_iff_iff, List.isEmpty_iff, trimS_nil]
  unfold allDgt
  have : (fun c => tenDgts.contains c) = dgt := funext ten_dgt
  rw [this]
theorem parseUintM_dgts (M : Nat) (hM : M ≤ 18446744073709551615) : ∀ (l : List UInt8) (a : Nat), allDgt l = true → a ≤ M →
    (valFrom a l ≤ M ∧ Go.Lib.parseUintM M a l = .ok (valFrom a l)) ∨ (M < valFrom a l ∧ Go.Lib.parseUintM M a l = .range) := by
  intro l
  induction l with
  | nil => intro a _ ha; exact .inl ⟨ha, rfl⟩
  | cons c l ih =>
    intro a hd ha
    simp only [allDgt, List.all_cons, Bool.and_eq_true] at hd
    obtain ⟨hc, hl⟩ := hd
    simp only [dgt, Bool.and_eq_true, decide_eq_true_eq] at hc
    unfold Go.Lib.parseUintM
    rw [if_pos hc]
    rw [valFrom_cons, show 10 * a + (c.toNat - 48) = a * 10 + (c.toNat - 48) by omega]
    by_cases h1 : 1844674407370955162 ≤ a
    · rw [if_pos h1]
      have := valFrom_ge l (a * 10 + (c.toNat - 48))
      exact .inr ⟨by omega, rfl⟩
    · rw [if_neg h1]
      by_cases h2 : M < a * 10 + (c.toNat - 48)
      · rw [if_pos h2]
        have := valFrom_ge l (a * 10 + (c.toNat - 48))
        exact .inr ⟨by omega, rfl⟩
      · rw [if_neg h2]
        exact ih _ hl (by omega)
theorem parseUintB_dgts (l : List UInt8) (hne : l ≠ []) (hd : allDgt l = true) :
    (valOf l < 18446744073709551616 ∧ Go.Lib.parseUintB 64 l = .ok (valOf l)) ∨ (18446744073709551616 ≤ valOf l ∧ Go.Lib.parseUintB 64 l = .range) := by
  unfold Go.Lib.parseUintB
  rw [if_neg hne]
  rcases parseUintM_dgts (2 ^ 64 - 1) (by decide) l 0 hd (by omega) with ⟨h, e⟩ | ⟨h, e⟩
  · exact .inl ⟨by unfold valOf; omega, e⟩
  · exact .inr ⟨by unfold valOf; omega, e⟩
def parseV (l : List UInt8) : Option Nat := if l ≠ [] ∧ l.length ≤ 20 ∧ allDgt l = true ∧ valOf l < 18446744073709551616 then some (valOf l) else none
end Go.Proofs.YtehfcboiimdkbaaGreatDoor
/- Plain laws on decimal texts, the second part: a number's text says it; texts are ordered as numbers are. No program in sight. -/
namespace Go.Proofs.YtehfcboiimdkbaaGreatDoor
set_option linter.unusedSimpArgs false
set_option linter.unusedVariables false
open Go.Lib
theorem valFrom_lt : ∀ (l : List UInt8) (a : Nat), allDgt l = true → valFrom a l < (a + 1) * 10 ^ l.length := by
  intro l
  induction l with
  | nil => intro a _; show a < (a + 1) * 1; omega
  | cons c l ih =>
    intro a hd
    simp only [allDgt, List.all_cons, Bool.and_eq_true] at hd
    obtain ⟨hc, hl⟩ := hd
    simp only [dgt, Bool.and_eq_true, decide_eq_true_eq] at hc
    rw [valFrom_cons, List.length_cons, Nat.pow_succ]
    have h1 := ih (10 * a + (c.toNat - 48)) hl
    have h2 : (10 * a + (c.toNat - 48) + 1) * 10 ^ l.length ≤ (10 * (a + 1)) * 10 ^ l.length := Nat.mul_le_mul (by omega) (Nat.le_refl _)
    have h3 : (10 * (a + 1)) * 10 ^ l.length = (a + 1) * (10 ^ l.length * 10) := by rw [Nat.mul_comm 10 (a + 1), Nat.mul_assoc, Nat.mul_comm 10]
    omega
end Go.Proofs.YtehfcboiimdkbaaGreatDoor
/- The model's plain functions: what Apply computes of a state and a command. No program in sight. -/
namespace Go.Proofs.YtehfcboiimdkbaaGreatDoor
set_option linter.unusedSimpArgs false
set_option linter.unusedVariables false
open Go.Lib
structure It where
  key : List UInt8
  flags : Int
  val : List UInt8
  exp : Int
  cas : Int
  last : Int
  stale : Bool
  won : Bool
structure St where
  items : List It
  cas : Int
  flush : Int
structure Cd where
  op : Int
  mode : Int
  key : List UInt8
  val : List UInt8
  flags : Int
  exp : Int
  hasExp : Bool
  cas : Int
  hasCas : Bool
  delta : Int
  init : Int
  down : Bool
  viv : Bool
  vive : Int
  recache : Int
  inval : Bool
structure An where
  st : Int
  it : It
  num : Int
  w : Bool
  x : Bool
  z : Bool
def It.zero : It := ⟨[], 0, [], 0, 0, 0, false, false⟩
def St.zero : St := ⟨[], 0, 0⟩
def An.zero : An := ⟨0, It.zero, 0, false, false, false⟩
def keyB (k : List UInt8) : Bool := !k.isEmpty && (k.all fun c => decide (32 < c.toNat) && decide (c.toNat ≠ 127)) && decide (k.length ≤ 250)
def nearB (n : Int) : Bool := decide (-1099511627776 ≤ n) && decide (n ≤ 1099511627776)
end Go.Proofs.YtehfcboiimdkbaaGreatDoor
/- Plain laws on texts of numbers with a sign. No program in sight. -/
namespace Go.Proofs.YtehfcboiimdkbaaGreatDoor
set_option linter.unusedSimpArgs false
set_option linter.unusedVariables false
open Go.Lib
def isNeg : List UInt8 → Bool | c :: _ => c == 45 | [] => false
def unsig (l : List UInt8) : List UInt8 := if isNeg l then l.drop 1 else l
def signedV (l : List UInt8) : Option Int :=
  if unsig l ≠ [] ∧ (unsig l).length ≤ 19 ∧ allDgt (unsig l) = true ∧ (valOf (unsig l) < 9223372036854775808 ∨ isNeg l = true ∧ valOf (unsig l) = 9223372036854775808)
  then some (if isNeg l then -(valOf (unsig l) : Int) else (valOf (unsig l) : Int)) else none
theorem isNeg_cons {l : List UInt8} (h : isNeg l = true) : ∃ r, l = 45 :: r := by
  cases l with
  | nil => cases h
  | cons c r => exact ⟨r, by unfold isNeg at h; rw [beq_iff_eq.1 h]⟩
theorem trimDash (l : List UInt8) : trimPrefix l [45] = unsig l := by
  unfold trimPrefix hasPrefix unsig isNeg
  cases l with
  | nil => rfl
  | cons c r =>
    by_cases h : c = 45
    · subst h; rfl
    · have h1 : (c == 45) = false := by simpa using h
      have h2 : ([45] : List UInt8).isPrefixOf (c :: r) = false := by
        have : ((45 : UInt8) == c) = false := by simpa using fun e => h e.symm
        simp [List.isPrefixOf, this]
      rw [h2]
      show _ = if (c == 45) = true then _ else _
      rw [h1]; rfl
theorem pow19 : ∀ k, k ≤ 19 → 10 ^ k ≤ 10000000000000000000 := fun k hk => by
  have := Nat.pow_le_pow_right (n := 10) (by omega) hk
  exact this
theorem val19 (l : List UInt8) (h : l.length ≤ 19) (hd : allDgt l = true) : valOf l < 10000000000000000000 := by
  have h1 := valFrom_lt l 0 hd
  have h2 := pow19 l.length h
  unfold valOf; omega
theorem parseIntB_dgts (l : List UInt8) (h0 : unsig l ≠ []) (h1 : (unsig l).length ≤ 19) (h2 : allDgt (unsig l) = true) :
    (∃ v, signedV l = some v ∧ parseIntB 64 l = .ok v) ∨ (signedV l = none ∧ parseIntB 64 l = .range) := by
  have hv := val19 _ h1 h2
  have hp : parseUintB 64 (unsig l) = .ok (valOf (unsig l)) := by
    rcases parseUintB_dgts (unsig l) h0 h2 with ⟨_, e⟩ | ⟨h, _⟩
    · exact e
    · omega
  by_cases hn : isNeg l = true
  · obtain ⟨r, rfl⟩ := isNeg_cons hn
    have er : unsig (45 :: r) = r := rfl
    rw [er] at h0 h1 h2 hv hp
    rw [parseIntB_minus, hp]
    unfold signedC signedV
    rw [er, if_pos (show isNeg (45 :: r) = true from rfl)]
    by_cases hc : 2 ^ (64 - 1) < valOf r
    · exact .inr ⟨if_neg (fun ⟨_, _, _, h⟩ => by omega), if_pos hc⟩
    · exact .inl ⟨_, if_pos ⟨h0, h1, h2, by rcases Nat.lt_or_ge (valOf r) 9223372036854775808 with h | h; exact .inl h; exact .inr ⟨rfl, by omega⟩⟩, if_neg hc⟩
  · have hn' : isNeg l = false := by simpa using hn
    have er : unsig l = l := by unfold unsig; rw [if_neg hn]
    rw [er] at h0 h1 h2 hv hp
    cases l with
    | nil => exact absurd rfl h0
    | cons c r =>
      have hc : dgt c = true := by simp only [allDgt, List.all_cons, Bool.and_eq_true] at h2; exact h2.1
      simp only [dgt, Bool.and_eq_true, decide_eq_true_eq] at hc
      rw [parseIntB_plain 64 c r (by omega) (by omega), hp]
      unfold signlessC signedV
      rw [er, if_neg hn]
      by_cases hk : 2 ^ (64 - 1) ≤ valOf (c :: r)
      · exact .inr ⟨if_neg (fun ⟨_, _, _, h⟩ => by rcases h with h | ⟨h, _⟩; omega; exact hn h), if_pos hk⟩
      · exact .inl ⟨_, if_pos ⟨h0, h1, h2, .inl (by omega)⟩, if_neg hk⟩
end Go.Proofs.YtehfcboiimdkbaaGreatDoor
/- Plain laws on a line's words. No program in sight. -/
namespace Go.Proofs.YtehfcboiimdkbaaGreatDoor
set_option linter.unusedSimpArgs false
set_option linter.unusedVariables false
open Go.Lib
def wordsF : Nat → List UInt8 → List (List UInt8)
  | 0, _ => []
  | k + 1, l => if l.dropWhile (· == 32) = [] then [] else (l.dropWhile (· == 32)).takeWhile (· != 32) :: wordsF k (((l.dropWhile (· == 32)).dropWhile (· != 32)).drop 1)
end Go.Proofs.YtehfcboiimdkbaaGreatDoor
/- Cut at a blank, by what stands ahead of it and behind it. No program in sight. -/
namespace Go.Proofs.YtehfcboiimdkbaaGreatDoor
set_option linter.unusedSimpArgs false
set_option linter.unusedVariables false
open Go.Lib
theorem cut_cases (c : UInt8) (l : List UInt8) : (indexByte l c = -1 ∧ l.takeWhile (· != c) = l ∧ l.dropWhile (· != c) = []) ∨ (∃ k : Nat, indexByte l c = (k : Int) ∧ l.takeWhile (· != c) = l.take k ∧ l.dropWhile (· != c) = l.drop k) := by
  induction l with
  | nil => exact .inl ⟨rfl, rfl, rfl⟩
  | cons b l ih =>
    by_cases hb : b = c
    · subst hb
      exact .inr ⟨0, by simp [indexByte], by simp, by simp⟩
    · have hb2 : (b == c) = false := by simpa using hb
      have hb3 : (b != c) = true := by simpa using hb
      rcases ih with ⟨h1, h2, h3⟩ | ⟨k, h1, h2, h3⟩
      · refine .inl ⟨by simp [indexByte, hb2, h1], ?_, ?_⟩
        · rw [List.takeWhile_cons, if_pos hb3, h2]
        · rw [List.dropWhile_cons, if_pos hb3, h3]
      · refine .inr ⟨k + 1, ?_, ?_, ?_⟩
        · have : ¬ ((k : Int) = -1) := by omega
          simp [indexByte, hb2, h1, this]
        · rw [List.takeWhile_cons, if_pos hb3, h2, List.take_succ_cons]
        · rw [List.dropWhile_cons, if_pos hb3, h3, List.drop_succ_cons]
theorem cut_one (c : UInt8) (l : List UInt8) : (cut l [c]).1 = l.takeWhile (· != c) ∧ (cut l [c]).2.1 = (l.dropWhile (· != c)).drop 1 := by
  unfold cut
  rw [index_one]
  rcases cut_cases c l with ⟨h1, h2, h3⟩ | ⟨k, h1, h2, h3⟩
  · rw [h1, if_neg (by decide), h2, h3]
    exact ⟨rfl, rfl⟩
  · rw [h1, if_pos (by omega), h2, h3]
    refine ⟨by simp, ?_⟩
    simp [List.drop_drop]
end Go.Proofs.YtehfcboiimdkbaaGreatDoor
/- What text.Parse and text.Reply compute. No program in sight. Printed by gen_textf.py. -/
namespace Go.Proofs.YtehfcboiimdkbaaGreatDoor
set_option linter.unusedSimpArgs false
set_option linter.unusedVariables false
open Go.Lib
structure Rq where
  kind : Int
  cmds : List Cd
  quiet : Bool
  tokens : Bool
  reply : List UInt8
  arg : List UInt8
  skip : Int
  close : Bool
  word : List UInt8
def Rq.zero : Rq := ⟨0, [], false, false, [], [], 0, false, []⟩
def badR (s : List UInt8) : Rq := ⟨2, [], false, false, s, [], 0, false, []⟩
def f_unknown : List UInt8 := [69, 82, 82, 79, 82]
def f_format : List UInt8 := [67, 76, 73, 69, 78, 84, 95, 69, 82, 82, 79, 82, 32, 98, 97, 100, 32, 99, 111, 109, 109, 97, 110, 100, 32, 108, 105, 110, 101, 32, 102, 111, 114, 109, 97, 116]
def f_exptime : List UInt8 := [67, 76, 73, 69, 78, 84, 95, 69, 82, 82, 79, 82, 32, 105, 110, 118, 97, 108, 105, 100, 32, 101, 120, 112, 116, 105, 109, 101, 32, 97, 114, 103, 117, 109, 101, 110, 116]
def f_delta : List UInt8 := [67, 76, 73, 69, 78, 84, 95, 69, 82, 82, 79, 82, 32, 105, 110, 118, 97, 108, 105, 100, 32, 110, 117, 109, 101, 114, 105, 99, 32, 100, 101, 108, 116, 97, 32, 97, 114, 103, 117, 109, 101, 110, 116]
def f_large : List UInt8 := [83, 69, 82, 86, 69, 82, 95, 69, 82, 82, 79, 82, 32, 111, 98, 106, 101, 99, 116, 32, 116, 111, 111, 32, 108, 97, 114, 103, 101, 32, 102, 111, 114, 32, 99, 97, 99, 104, 101]
def b_noreply : List UInt8 := [110, 111, 114, 101, 112, 108, 121]
def b_chunk : List UInt8 := [67, 76, 73, 69, 78, 84, 95, 69, 82, 82, 79, 82, 32, 98, 97, 100, 32, 100, 97, 116, 97, 32, 99, 104, 117, 110, 107]
def b_long : List UInt8 := [67, 76, 73, 69, 78, 84, 95, 69, 82, 82, 79, 82, 32, 108, 105, 110, 101, 32, 116, 111, 111, 32, 108, 111, 110, 103]
inductive Rd' where
  | fault (f : List UInt8)
  | got (r : Rq) (more : Bool) (used : Int)
def secF (s : List UInt8) : Int × Bool := match signedV s with
  | some n => (n, nearB n)
  | none => (0, false)
def offF (w : List (List UInt8)) : List (List UInt8) × Bool := match w.getLast? with
  | some x => if x = b_noreply then (w.dropLast, true) else (w, false)
  | none => (w, false)
def doR (cs : List Cd) (quiet : Bool) : Rq := ⟨1, cs.map (fun c => { c with recache := -1 }), quiet, false, [], [], 0, false, []⟩
def Cd.zero : Cd := ⟨0, 0, [], [], 0, 0, false, 0, false, 0, 0, false, false, 0, 0, false⟩
def modeF (name : List UInt8) : Int := if name = [97, 100, 100] then 1 else if name = [114, 101, 112, 108, 97, 99, 101] then 2 else if name = [97, 112, 112, 101, 110, 100] then 3 else if name = [112, 114, 101, 112, 101, 110, 100] then 4 else 0
def getR (name : List UInt8) (w : List (List UInt8)) : Rd' :=
  let gat := ([103, 97, 116] : List UInt8).isPrefixOf name
  if gat && w.length < 2 then .fault f_unknown
  else if gat && !(secF (w.getD 0 [])).2 then .fault f_exptime
  else
    let keys := if gat then w.drop 1 else w
    if keys = [] then .fault f_unknown
    else if keys.all keyB then .got { doR (keys.map fun k => { Cd.zero with op := 1, key := k, exp := if gat then (secF (w.getD 0 [])).1 else 0, hasExp := gat }) false with tokens := name.getLast? == some 115 } false 0
    else .fault f_format
def storeR (name : List UInt8) (w0 : List (List UInt8)) (behind : List UInt8) : Rd' :=
  let w := (offF w0).1
  let quiet := (offF w0).2
  let token := name == [99, 97, 115]
  if w.length ≠ (bif token then 5 else 4) then .fault f_unknown
  else match parseV (w.getD 3 []) with
  | none => .fault f_format
  | some n =>
    if 1073741824 < n then .fault f_format
    else
      let fl := parseV (w.getD 1 [])
      let ex := secF (w.getD 2 [])
      let cs := bif token then parseV (w.getD 4 []) else some 0
      let key := w.getD 0 []
      let size := n + 2
      if !keyB key || fl.isNone || decide (4294967295 < fl.getD 0) || !(ex.2 && cs.isSome) then .got { badR f_format with skip := size } false 0
      else if 65536 < n then .got { badR f_large with skip := size } false 0
      else if behind.length < size then .got Rq.zero true 0
      else if (behind.take size).drop n = [13, 10] then .got (doR [{ Cd.zero with op := 2, mode := modeF name, key := key, val := behind.take n, flags := fl.getD 0, exp := ex.1, hasCas := token, cas := cs.getD 0 }] quiet) false size
      else .got (badR b_chunk) false size
def okKey (s : List UInt8) (k : List UInt8 → Rd') : Rd' := if keyB s then k s else .fault f_format
def plainR (name : List UInt8) (w0 : List (List UInt8)) : Rd' :=
  let w := (offF w0).1
  let quiet := (offF w0).2
  if name = [105, 110, 99, 114] ∨ name = [100, 101, 99, 114] then
    if w.length ≠ 2 then .fault f_unknown
    else okKey (w.getD 0 []) fun key => match parseV (w.getD 1 []) with
      | none => .fault f_delta
      | some n => .got (doR [{ Cd.zero with op := 3, key := key, delta := n, down := name == [100, 101, 99, 114] }] quiet) false 0
  else if name = [116, 111, 117, 99, 104] then
    if w.length ≠ 2 then .fault f_unknown
    else okKey (w.getD 0 []) fun key => if (secF (w.getD 1 [])).2 then .got (doR [{ Cd.zero with op := 4, key := key, exp := (secF (w.getD 1 [])).1 }] quiet) false 0 else .fault f_exptime
  else if name = [100, 101, 108, 101, 116, 101] then
    if w.length = 0 ∨ 2 < w.length then .fault f_unknown
    else okKey (w.getD 0 []) fun key => if w.length = 1 ∨ w.getD 1 [] = [48] then .got (doR [{ Cd.zero with op := 5, key := key }] quiet) false 0 else .fault f_format
  else if name = [102, 108, 117, 115, 104, 95, 97, 108, 108] then
    if 1 < w.length then .fault f_unknown
    else if w.length = 1 then (if (secF (w.getD 0 [])).2 then .got (doR [{ Cd.zero with op := 6, exp := (secF (w.getD 0 [])).1 }] quiet) false 0 else .fault f_exptime)
    else .got (doR [{ Cd.zero with op := 6 }] quiet) false 0
  else if name = [118, 101, 114, 98, 111, 115, 105, 116, 121] then
    if w.length ≠ 1 then .fault f_unknown else .got { Rq.zero with kind := 4, quiet := quiet } false 0
  else if name = [118, 101, 114, 115, 105, 111, 110] then
    if w0.length ≠ 0 then .fault f_unknown else .got { Rq.zero with kind := 3 } false 0
  else if name = [113, 117, 105, 116] then
    if w0.length ≠ 0 then .fault f_unknown else .got { Rq.zero with kind := 6, close := true } false 0
  else if name = [115, 116, 97, 116, 115] then
    if 1 < w0.length then .fault f_unknown else .got { Rq.zero with kind := 5, arg := w0.getD 0 [] } false 0
  else .fault f_unknown
def readR (name : List UInt8) (w : List (List UInt8)) (behind : List UInt8) : Rd' :=
  if name = [103, 101, 116] ∨ name = [103, 101, 116, 115] ∨ name = [103, 97, 116] ∨ name = [103, 97, 116, 115] then getR name w
  else if name = [115, 101, 116] ∨ name = [97, 100, 100] ∨ name = [114, 101, 112, 108, 97, 99, 101] ∨ name = [97, 112, 112, 101, 110, 100] ∨ name = [112, 114, 101, 112, 101, 110, 100] ∨ name = [99, 97, 115] then storeR name w behind
  else plainR name w
def lineV (b : List UInt8) : List UInt8 × Nat :=
  let l := b.takeWhile (· != 10)
  if l.length < b.length then ((if l.getLast? = some 13 then l.dropLast else l), l.length + 1) else ([], 0)
def endR (n : Nat) : Rd' → Rq × Int
  | .fault f => (badR f, n)
  | .got _ true _ => (Rq.zero, 0)
  | .got r false used => (r, n + used)
def lineR (n : Nat) (behind : List UInt8) : List (List UInt8) → Rq × Int
  | [] => (badR f_unknown, n)
  | name :: w => endR n (readR name w behind)
def tParse (b : List UInt8) : Rq × Int :=
  let s := lineV (b.take 2048)
  if s.2 = 0 then (if b.length < 2048 then (Rq.zero, 0) else ({ badR b_long with close := true }, 2048))
  else lineR s.2 (b.drop s.2) (wordsF (s.1.length + 1) s.1)
end Go.Proofs.YtehfcboiimdkbaaGreatDoor
/- TextPieces: a request that is there is the same, whatever stands behind it. No program in sight. -/
namespace Go.Proofs.YtehfcboiimdkbaaGreatDoor
set_option linter.unusedSimpArgs false
set_option linter.unusedVariables false
open Go.Lib
theorem lineV_pre {a r : List UInt8} (h : (lineV a).2 ≠ 0) : lineV (a ++ r) = lineV a ∧ (lineV a).2 ≤ a.length ∧ 0 < (lineV a).2 := by
  unfold lineV at h ⊢
  by_cases hl : (a.takeWhile (· != 10)).length < a.length
  · have he : (a ++ r).takeWhile (· != 10) = a.takeWhile (· != 10) := by
      have hd : a.takeWhile (· != 10) ++ a.dropWhile (· != 10) = a := List.takeWhile_append_dropWhile
      cases hdw : a.dropWhile (· != 10) with
      | nil => rw [hdw, List.append_nil] at hd; rw [hd] at hl; exact absurd hl (Nat.lt_irrefl _)
      | cons c t =>
        have hc : (c != 10) = false := by
          have := List.head?_dropWhile_not (· != 10) a
          rw [hdw] at this
          simpa using this
        rw [hdw] at hd
        rw [← hd, List.append_assoc, List.takeWhile_append_of_pos (fun x hx => List.all_eq_true.1 List.all_takeWhile x hx), List.cons_append, List.takeWhile_cons, hc]
        simp only [Bool.false_eq_true, if_false, List.append_nil]
        rw [List.takeWhile_append_of_pos (fun x hx => List.all_eq_true.1 List.all_takeWhile x hx), List.takeWhile_cons, hc]
        simp
    simp only [he]
    rw [if_pos hl, if_pos (by rw [List.length_append]; omega)]
    exact ⟨rfl, hl, Nat.succ_pos _⟩
  · rw [if_neg hl] at h; exact absurd rfl h
theorem store_pre {name : List UInt8} {w : List (List UInt8)} {a r : List UInt8} {q : Rq} {u : Int} (h : storeR name w a = .got q false u) : storeR name w (a ++ r) = .got q false u ∧ 0 ≤ u ∧ u ≤ (a.length : Int) := by
  unfold storeR at h ⊢
  simp only at h ⊢
  split at h
  · cases h
  rename_i hc
  rw [if_neg hc]
  split at h
  · cases h
  rename_i n hn
  split at h
  · cases h
  rename_i hd
  rw [if_neg hd]
  split at h
  · rename_i hb
    rw [if_pos hb]
    simp only [Rd'.got.injEq, true_and] at h
    obtain ⟨rfl, _, rfl⟩ := h
    exact ⟨rfl, Int.le_refl _, by omega⟩
  rename_i hb
  rw [if_neg hb]
  split at h
  · rename_i hm
    rw [if_pos hm]
    simp only [Rd'.got.injEq, true_and] at h
    obtain ⟨rfl, _, rfl⟩ := h
    exact ⟨rfl, Int.le_refl _, by omega⟩
  rename_i hm
  rw [if_neg hm]
  split at h
  · cases h
  rename_i hs
  have hs' : n + 2 ≤ a.length := by omega
  have e1 : (a ++ r).take (n + 2) = a.take (n + 2) := List.take_append_of_le_length hs'
  have e2 : (a ++ r).take n = a.take n := List.take_append_of_le_length (by omega)
  rw [if_neg (by rw [List.length_append]; omega), e1, e2]
  split at h
  · rename_i he
    rw [if_pos he]
    simp only [Rd'.got.injEq, true_and] at h
    obtain ⟨rfl, rfl⟩ := h
    exact ⟨rfl, by omega, by omega⟩
  · rename_i he
    rw [if_neg he]
    simp only [Rd'.got.injEq, true_and] at h
    obtain ⟨rfl, rfl⟩ := h
    exact ⟨rfl, by omega, by omega⟩
theorem get_used {name : List UInt8} {w : List (List UInt8)} {q : Rq} {u : Int} (h : getR name w = .got q false u) : u = 0 := by
  unfold getR at h
  simp only at h
  repeat' split at h
  all_goals first
    | cases h; done
    | (simp only [Rd'.got.injEq, true_and] at h; exact h.2.symm)
theorem plain_used {name : List UInt8} {w : List (List UInt8)} {q : Rq} {u : Int} (h : plainR name w = .got q false u) : u = 0 := by
  unfold plainR okKey at h
  simp only at h
  repeat' split at h
  all_goals first
    | cases h; done
    | (simp only [Rd'.got.injEq, true_and] at h; exact h.2.symm)
theorem read_pre {name : List UInt8} {w : List (List UInt8)} {a r : List UInt8} {q : Rq} {u : Int} (h : readR name w a = .got q false u) : readR name w (a ++ r) = .got q false u ∧ 0 ≤ u ∧ u ≤ (a.length : Int) := by
  unfold readR at h ⊢
  split at h
  · rename_i h1
    rw [if_pos h1]
    have := get_used h
    subst this
    exact ⟨h, Int.le_refl _, by omega⟩
  · rename_i h1
    rw [if_neg h1]
    split at h
    · rename_i h2
      rw [if_pos h2]
      exact store_pre h
    · rename_i h2
      rw [if_neg h2]
      have := plain_used h
      subst this
      exact ⟨h, Int.le_refl _, by omega⟩
theorem read_fault {name : List UInt8} {w : List (List UInt8)} {a b : List UInt8} {f : List UInt8} (h : readR name w a = .fault f) : readR name w b = .fault f := by
  unfold readR at h ⊢
  split at h
  · rename_i h1; rw [if_pos h1]; exact h
  · rename_i h1
    rw [if_neg h1]
    split at h
    · rename_i h2
      rw [if_pos h2]
      unfold storeR at h ⊢
      simp only at h ⊢
      split at h
      · rename_i hc; rw [if_pos hc]; exact h
      rename_i hc
      rw [if_neg hc]
      split at h
      · exact h
      split at h
      · rename_i hd; rw [if_pos hd]; exact h
      repeat' split at h
      all_goals cases h
    · rename_i h2; rw [if_neg h2]; exact h
theorem parse_pre {a r : List UInt8} (h : (tParse a).1.kind ≠ 0) : tParse (a ++ r) = tParse a ∧ 0 < (tParse a).2 ∧ (tParse a).2 ≤ (a.length : Int) := by
  have htk : (a ++ r).take 2048 = a.take 2048 ++ r.take (2048 - a.length) := List.take_append
  by_cases hs : (lineV (a.take 2048)).2 = 0
  · have hl : ¬ a.length < 2048 := fun hl => h (by unfold tParse; simp only; rw [if_pos hs, if_pos hl]; rfl)
    have e : (a ++ r).take 2048 = a.take 2048 := by rw [htk, show 2048 - a.length = 0 by omega]; simp
    have e1 : tParse a = ({ badR b_long with close := true }, 2048) := by unfold tParse; simp only; rw [if_pos hs, if_neg hl]
    have e2 : tParse (a ++ r) = ({ badR b_long with close := true }, 2048) := by
      unfold tParse; simp only; rw [e, if_pos hs, if_neg (by rw [List.length_append]; omega)]
    rw [e1, e2]
    exact ⟨rfl, by decide, by show (2048 : Int) ≤ _; omega⟩
  · obtain ⟨p1, p2, p3⟩ := lineV_pre (r := r.take (2048 - a.length)) hs
    rw [← htk] at p1
    have p2' : (lineV (a.take 2048)).2 ≤ a.length := Nat.le_trans p2 (by rw [List.length_take]; omega)
    have hdr : (a ++ r).drop (lineV (a.take 2048)).2 = a.drop (lineV (a.take 2048)).2 ++ r := List.drop_append_of_le_length p2'
    have ea : tParse a = lineR (lineV (a.take 2048)).2 (a.drop (lineV (a.take 2048)).2) (wordsF ((lineV (a.take 2048)).1.length + 1) (lineV (a.take 2048)).1) := by
      unfold tParse; simp only; rw [if_neg hs]
    have eb : tParse (a ++ r) = lineR (lineV (a.take 2048)).2 (a.drop (lineV (a.take 2048)).2 ++ r) (wordsF ((lineV (a.take 2048)).1.length + 1) (lineV (a.take 2048)).1) := by
      unfold tParse; simp only; rw [p1, if_neg hs, hdr]
    rw [ea] at h
    rw [ea, eb]
    generalize wordsF ((lineV (a.take 2048)).1.length + 1) (lineV (a.take 2048)).1 = ws at h ⊢
    cases ws with
    | nil => exact ⟨rfl, by show (0 : Int) < ((lineV (a.take 2048)).2 : Int); omega, by show ((lineV (a.take 2048)).2 : Int) ≤ _; omega⟩
    | cons name w =>
      simp only [lineR] at h ⊢
      have hlen : (a.drop (lineV (a.take 2048)).2).length = a.length - (lineV (a.take 2048)).2 := List.length_drop
      cases hr : readR name w (a.drop (lineV (a.take 2048)).2) with
      | fault f =>
        rw [read_fault (b := a.drop (lineV (a.take 2048)).2 ++ r) hr]
        simp only [endR]
        exact ⟨trivial, by omega, by omega⟩
      | got q more u =>
        rw [hr] at h
        simp only [endR] at h
        cases more with
        | true => exact absurd rfl h
        | false =>
          obtain ⟨k1, k2, k3⟩ := read_pre (r := r) hr
          rw [k1]
          simp only [endR]
          exact ⟨trivial, by omega, by omega⟩
end Go.Proofs.YtehfcboiimdkbaaGreatDoor
/- What b64.Decode and meta.Parse compute. No program in sight. Printed by gen_metaf.py. -/
namespace Go.Proofs.YtehfcboiimdkbaaGreatDoor
set_option linter.unusedSimpArgs false
set_option linter.unusedVariables false
open Go.Lib
def b64L : List UInt8 := [65, 66, 67, 68, 69, 70, 71, 72, 73, 74, 75, 76, 77, 78, 79, 80, 81, 82, 83, 84, 85, 86, 87, 88, 89, 90, 97, 98, 99, 100, 101, 102, 103, 104, 105, 106, 107, 108, 109, 110, 111, 112, 113, 114, 115, 116, 117, 118, 119, 120, 121, 122, 48, 49, 50, 51, 52, 53, 54, 55, 56, 57, 43, 47]
def decStep (c : UInt8) (b n : Nat) (out : List UInt8) : Option (Nat × Nat × List UInt8) :=
  let k := indexByte b64L c
  if k < 0 then none
  else
    let b' := (b * 64 % 4294967296) ||| k.toNat
    if 8 ≤ n + 6 then some (b', n - 2, out ++ [UInt8.ofNat (b' / 2 ^ (n - 2))]) else some (b', n + 6, out)
def decGo : List UInt8 → Nat → Nat → List UInt8 → Option (Nat × Nat × List UInt8)
  | [], b, n, out => some (b, n, out)
  | c :: l, b, n, out => match decStep c b n out with
    | some (b', n', out') => decGo l b' n' out'
    | none => none
def noFill (s : List UInt8) : List UInt8 := (s.reverse.dropWhile (· == 61)).reverse
def decB (s : List UInt8) : Option (List UInt8) :=
  let body := noFill s
  if s.length % 4 ≠ 0 ∨ 2 < s.length - body.length then none
  else match decGo body 0 0 [] with
    | some (b, n, out) => if b % 2 ^ n = 0 then some out else none
    | none => none
structure Mq where
  kind : Int
  cmds : List Cd
  quiet : Bool
  reply : List UInt8
  skip : Int
  close : Bool
  name : List UInt8
  flags : List (List UInt8)
  word : List UInt8
def Mq.zero : Mq := ⟨0, [], false, [], 0, false, [], [], []⟩
def badM (s : List UInt8) (skip : Int) : Mq := ⟨2, [], false, s, skip, false, [], [], []⟩
def m_me : List UInt8 := [109, 101]
def m_mg : List UInt8 := [109, 103]
def m_ms : List UInt8 := [109, 115]
def m_md : List UInt8 := [109, 100]
def m_ma : List UInt8 := [109, 97]
def m_mn : List UInt8 := [109, 110]
def f_token : List UInt8 := [67, 76, 73, 69, 78, 84, 95, 69, 82, 82, 79, 82, 32, 98, 97, 100, 32, 116, 111, 107, 101, 110, 32, 105, 110, 32, 99, 111, 109, 109, 97, 110, 100, 32, 108, 105, 110, 101, 32, 102, 111, 114, 109, 97, 116]
def f_invalid : List UInt8 := [67, 76, 73, 69, 78, 84, 95, 69, 82, 82, 79, 82, 32, 105, 110, 118, 97, 108, 105, 100, 32, 102, 108, 97, 103]
def f_twice : List UInt8 := [67, 76, 73, 69, 78, 84, 95, 69, 82, 82, 79, 82, 32, 100, 117, 112, 108, 105, 99, 97, 116, 101, 32, 102, 108, 97, 103]
def cmd0 (op delta : Int) : Cd := { Cd.zero with op := op, delta := delta, recache := -1 }
def kindM (name : List UInt8) : Cd × List UInt8 :=
  if name = m_me then (cmd0 7 0, [98])
  else if name = m_mg then (cmd0 1 0, [98, 99, 102, 107, 113, 115, 116, 118, 79, 78, 82, 84])
  else if name = m_ms then (cmd0 2 0, [98, 99, 107, 113, 73, 67, 70, 77, 79, 84])
  else if name = m_md then (cmd0 5 0, [98, 107, 113, 73, 67, 79, 84])
  else if name = m_ma then (cmd0 3 1, [98, 99, 107, 113, 116, 118, 67, 68, 74, 77, 78, 79, 84])
  else (cmd0 0 0, [])
def modeM (c : Cd) (s : List UInt8) : Cd × Bool := match s with
  | [x] => if c.op = 3 then
      let i := indexByte [73, 105, 43, 68, 100, 45] x
      ({ c with down := decide (3 ≤ i) }, decide (0 ≤ i))
    else
      let i := indexByte [83, 115, 69, 101, 82, 114, 65, 97, 80, 112] x
      ({ c with mode := if 0 < i.tdiv 2 then i.tdiv 2 else 0 }, decide (0 ≤ i))
  | _ => (c, false)
def numF (s : List UInt8) : Int × Bool := (((parseV s).getD 0 : Nat), (parseV s).isSome)
def setM (c : Cd) (x : UInt8) (s : List UInt8) : Cd × Bool :=
  if x = 67 then ({ c with cas := (numF s).1, hasCas := true }, (numF s).2)
  else if x = 68 then ({ c with delta := (numF s).1 }, (numF s).2)
  else if x = 74 then ({ c with init := (numF s).1 }, (numF s).2)
  else if x = 70 then ({ c with flags := IntKind.u32.wrap (numF s).1 }, (numF s).2 && decide ((numF s).1 < 4294967296))
  else if x = 77 then modeM c s
  else if x = 78 then ({ c with viv := true, vive := (secF s).1 }, (secF s).2)
  else if x = 82 then ({ c with recache := (secF s).1 }, (secF s).2)
  else if x = 84 then ({ c with hasExp := decide (c.op ≠ 2), exp := (secF s).1 }, (secF s).2)
  else if x = 79 then (c, decide (s ≠ []) && decide (s.length ≤ 32))
  else ({ c with inval := c.inval || decide (x = 73) }, decide (s = []))
def allM (allowed : List UInt8) : List (List UInt8) → Cd → List UInt8 → Cd × List UInt8 × List UInt8
  | [], c, seen => (c, [], seen)
  | [] :: _, c, _ => (c, f_invalid, [])
  | (x :: s) :: l, c, seen =>
    if allowed.contains x = false then (c, f_invalid, [])
    else if seen.contains x then (c, f_twice, [])
    else if (setM c x s).2 then allM allowed l (setM c x s).1 (seen ++ [x]) else ((setM c x s).1, f_token, [])
def okM : Option (List UInt8) → Bool
  | some k => keyB k
  | none => false
def flagsM (name : List UInt8) (l : List (List UInt8)) : Cd × List UInt8 × List UInt8 := allM (kindM name).2 l (kindM name).1 []
def keyM (name word : List UInt8) (l : List (List UInt8)) : Option (List UInt8) := if (flagsM name l).2.2.contains 98 then decB word else some word
def wrongM (name word : List UInt8) (l : List (List UInt8)) (size : Nat) : List UInt8 :=
  if (flagsM name l).2.1 ≠ [] then (flagsM name l).2.1
  else if okM (keyM name word l) = false then f_format
  else if 65538 < size then f_large else []
def doneM (name word : List UInt8) (l : List (List UInt8)) (val : List UInt8) : Mq :=
  ⟨1, [{ (flagsM name l).1 with key := (keyM name word l).getD [], val := val }], (flagsM name l).2.2.contains 113, [], 0, false, name, l, word⟩
def restM (name word : List UInt8) (l : List (List UInt8)) (size : Nat) (behind : List UInt8) : Mq × Int × Bool :=
  if wrongM name word l size ≠ [] then (badM (wrongM name word l size) size, 0, false)
  else if behind.length < size then (Mq.zero, 0, true)
  else if 0 < size ∧ (behind.take size).drop (size - 2) ≠ [13, 10] then (badM b_chunk 0, size, false)
  else (doneM name word l (if 0 < size then behind.take (size - 2) else []), size, false)
def readM (name : List UInt8) (w : List (List UInt8)) (behind : List UInt8) : Mq × Int × Bool := match w with
  | [] => (badM f_format 0, 0, false)
  | word :: l => if name = m_ms then (match l with
      | [] => (badM f_format 0, 0, false)
      | z :: l' => if (numF z).2 && decide ((numF z).1 ≤ 1073741824) then restM name word l' ((numF z).1.toNat + 2) behind else (badM f_format 0, 0, false))
    else restM name word l 0 behind
def lineM (n : Nat) (behind : List UInt8) : List (List UInt8) → Mq × Int
  | [] => (badM f_unknown 0, n)
  | name :: w => if (kindM name).2 ≠ [] then
      (if (readM name w behind).2.2 then (Mq.zero, 0) else ((readM name w behind).1, n + (readM name w behind).2.1))
    else if name = m_mn ∧ w = [] then (⟨7, [], false, [], 0, false, m_mn, [], []⟩, n) else (badM f_unknown 0, n)
def mParse (b : List UInt8) : Mq × Int :=
  let s := lineV (b.take 2048)
  if s.2 = 0 then (if b.length < 2048 then (Mq.zero, 0) else ({ badM b_long 0 with close := true }, 2048))
  else lineM s.2 (b.drop s.2) (wordsF (s.1.length + 1) s.1)
end Go.Proofs.YtehfcboiimdkbaaGreatDoor
/- MetaPieces: a request that is there is the same, whatever stands behind it. No program in sight. -/
namespace Go.Proofs.YtehfcboiimdkbaaGreatDoor
set_option linter.unusedSimpArgs false
set_option linter.unusedVariables false
open Go.Lib
theorem restM_pre {name word : List UInt8} {l : List (List UInt8)} {size : Nat} {a r : List UInt8} {q : Mq} {u : Int} (h : restM name word l size a = (q, u, false)) : restM name word l size (a ++ r) = (q, u, false) ∧ 0 ≤ u ∧ u ≤ (a.length : Int) := by
  unfold restM at h ⊢
  by_cases h1 : wrongM name word l size ≠ []
  · rw [if_pos h1] at h ⊢
    simp only [Prod.mk.injEq, and_true] at h
    obtain ⟨rfl, rfl⟩ := h
    exact ⟨rfl, Int.le_refl _, by omega⟩
  rw [if_neg h1] at h ⊢
  by_cases hs : a.length < size
  · rw [if_pos hs] at h; simp at h
  rw [if_neg hs] at h
  have hs' : size ≤ a.length := by omega
  have e1 : (a ++ r).take size = a.take size := List.take_append_of_le_length hs'
  have e2 : (a ++ r).take (size - 2) = a.take (size - 2) := List.take_append_of_le_length (by omega)
  rw [if_neg (by rw [List.length_append]; omega), e1, e2]
  by_cases hc : 0 < size ∧ (a.take size).drop (size - 2) ≠ [13, 10]
  · rw [if_pos hc] at h ⊢
    simp only [Prod.mk.injEq, and_true] at h
    obtain ⟨rfl, rfl⟩ := h
    exact ⟨rfl, by omega, by omega⟩
  · rw [if_neg hc] at h ⊢
    simp only [Prod.mk.injEq, and_true] at h
    obtain ⟨rfl, rfl⟩ := h
    exact ⟨rfl, by omega, by omega⟩
theorem readM_pre {name : List UInt8} {w : List (List UInt8)} {a r : List UInt8} {q : Mq} {u : Int} (h : readM name w a = (q, u, false)) : readM name w (a ++ r) = (q, u, false) ∧ 0 ≤ u ∧ u ≤ (a.length : Int) := by
  unfold readM at h ⊢
  have triv : ∀ {x : Mq}, (x, (0 : Int), false) = (q, u, false) → (x, (0 : Int), false) = (q, u, false) ∧ 0 ≤ u ∧ u ≤ (a.length : Int) := fun {x} h => by
    simp only [Prod.mk.injEq, and_true] at h
    obtain ⟨rfl, rfl⟩ := h
    exact ⟨rfl, Int.le_refl _, by omega⟩
  cases w with
  | nil => exact triv h
  | cons word l =>
    simp only at h ⊢
    by_cases hn : name = m_ms
    · rw [if_pos hn] at h ⊢
      cases l with
      | nil => exact triv h
      | cons z l' =>
        simp only at h ⊢
        split at h
        · rename_i hz
          rw [if_pos hz]
          exact restM_pre h
        · rename_i hz
          rw [if_neg hz]
          exact triv h
    · rw [if_neg hn] at h ⊢
      exact restM_pre h
theorem mparse_pre {a r : List UInt8} (h : (mParse a).1.kind ≠ 0) : mParse (a ++ r) = mParse a ∧ 0 < (mParse a).2 ∧ (mParse a).2 ≤ (a.length : Int) := by
  have htk : (a ++ r).take 2048 = a.take 2048 ++ r.take (2048 - a.length) := List.take_append
  by_cases hs : (lineV (a.take 2048)).2 = 0
  · have hl : ¬ a.length < 2048 := fun hl => h (by unfold mParse; simp only; rw [if_pos hs, if_pos hl]; rfl)
    have e : (a ++ r).take 2048 = a.take 2048 := by rw [htk, show 2048 - a.length = 0 by omega]; simp
    have e1 : mParse a = ({ badM b_long 0 with close := true }, 2048) := by unfold mParse; simp only; rw [if_pos hs, if_neg hl]
    have e2 : mParse (a ++ r) = ({ badM b_long 0 with close := true }, 2048) := by
      unfold mParse; simp only; rw [e, if_pos hs, if_neg (by rw [List.length_append]; omega)]
    rw [e1, e2]
    exact ⟨rfl, by decide, by show (2048 : Int) ≤ _; omega⟩
  · obtain ⟨p1, p2, p3⟩ := lineV_pre (r := r.take (2048 - a.length)) hs
    rw [← htk] at p1
    have p2' : (lineV (a.take 2048)).2 ≤ a.length := Nat.le_trans p2 (by rw [List.length_take]; omega)
    have hdr : (a ++ r).drop (lineV (a.take 2048)).2 = a.drop (lineV (a.take 2048)).2 ++ r := List.drop_append_of_le_length p2'
    have ea : mParse a = lineM (lineV (a.take 2048)).2 (a.drop (lineV (a.take 2048)).2) (wordsF ((lineV (a.take 2048)).1.length + 1) (lineV (a.take 2048)).1) := by
      unfold mParse; simp only; rw [if_neg hs]
    have eb : mParse (a ++ r) = lineM (lineV (a.take 2048)).2 (a.drop (lineV (a.take 2048)).2 ++ r) (wordsF ((lineV (a.take 2048)).1.length + 1) (lineV (a.take 2048)).1) := by
      unfold mParse; simp only; rw [p1, if_neg hs, hdr]
    rw [ea] at h
    rw [ea, eb]
    generalize wordsF ((lineV (a.take 2048)).1.length + 1) (lineV (a.take 2048)).1 = ws at h ⊢
    have same : ∀ x : Mq, (x, (((lineV (a.take 2048)).2 : Nat) : Int)) = (x, (((lineV (a.take 2048)).2 : Nat) : Int)) ∧ (0 : Int) < ((lineV (a.take 2048)).2 : Int) ∧ ((lineV (a.take 2048)).2 : Int) ≤ (a.length : Int) := fun x => ⟨rfl, by omega, by omega⟩
    cases ws with
    | nil => exact same _
    | cons name w =>
      simp only [lineM] at h ⊢
      by_cases hk : (kindM name).2 ≠ []
      · rw [if_pos hk] at h
        rw [if_pos hk, if_pos hk]
        have hlen : (a.drop (lineV (a.take 2048)).2).length = a.length - (lineV (a.take 2048)).2 := List.length_drop
        rcases hr : readM name w (a.drop (lineV (a.take 2048)).2) with ⟨q, u, more⟩
        rw [hr] at h
        cases more with
        | true => simp only [if_true] at h; exact absurd rfl h
        | false =>
          obtain ⟨k1, k2, k3⟩ := readM_pre (r := r) hr
          rw [k1]
          simp only [Bool.false_eq_true, if_false]
          exact ⟨trivial, by omega, by omega⟩
      · simp only [if_neg hk]
        split
        · exact ⟨trivial, by show (0 : Int) < ((lineV (a.take 2048)).2 : Int); omega, by show ((lineV (a.take 2048)).2 : Int) ≤ _; omega⟩
        · exact ⟨trivial, by show (0 : Int) < ((lineV (a.take 2048)).2 : Int); omega, by show ((lineV (a.take 2048)).2 : Int) ≤ _; omega⟩
end Go.Proofs.YtehfcboiimdkbaaGreatDoor
/- What b64.Encode computes, and that Decode undoes it. No program in sight. -/
namespace Go.Proofs.YtehfcboiimdkbaaGreatDoor
set_option linter.unusedSimpArgs false
set_option linter.unusedVariables false
open Go.Lib
def letB (k : Nat) : UInt8 := b64L.getD k 0
def encEm : Nat → Nat → Nat → List UInt8 → Nat × List UInt8
  | 0, _, n, out => (n, out)
  | f + 1, b, n, out => if 6 ≤ n then encEm f b (n - 6) (out ++ [letB (b / 2 ^ (n - 6) % 64)]) else (n, out)
def encGo : List UInt8 → Nat → Nat → List UInt8 → Nat × Nat × List UInt8
  | [], b, n, out => (b, n, out)
  | c :: l, b, n, out => encGo l ((b * 256 % 4294967296) ||| c.toNat) (encEm 3 ((b * 256 % 4294967296) ||| c.toNat) (n + 8) out).1 (encEm 3 ((b * 256 % 4294967296) ||| c.toNat) (n + 8) out).2
def encLast (r : Nat × Nat × List UInt8) : List UInt8 := if 0 < r.2.1 then r.2.2 ++ [letB (r.1 * 2 ^ (6 - r.2.1) % 4294967296 % 64)] else r.2.2
def encB (s : List UInt8) : List UInt8 := encLast (encGo s 0 0 []) ++ List.replicate ((4 - (encLast (encGo s 0 0 [])).length % 4) % 4) 61
def enc4 : List UInt8 → List UInt8
  | x :: y :: z :: l => letB (x.toNat / 4) :: letB (x.toNat % 4 * 16 + y.toNat / 16) :: letB (y.toNat % 16 * 4 + z.toNat / 64) :: letB (z.toNat % 64) :: enc4 l
  | [x, y] => [letB (x.toNat / 4), letB (x.toNat % 4 * 16 + y.toNat / 16), letB (y.toNat % 16 * 4)]
  | [x] => [letB (x.toNat / 4), letB (x.toNat % 4 * 16)]
  | [] => []
theorem or8 (b c : Nat) (hc : c < 256) : (b * 256 % 4294967296) ||| c = b % 16777216 * 256 + c := by
  have h := Nat.shiftLeft_add_eq_or_of_lt (i := 8) (b := c) hc (b % 16777216)
  rw [Nat.shiftLeft_eq] at h
  rw [show b * 256 % 4294967296 = b % 16777216 * 2 ^ 8 by omega, ← h]
theorem or6 (b c : Nat) (hc : c < 64) : (b * 64 % 4294967296) ||| c = b % 67108864 * 64 + c := by
  have h := Nat.shiftLeft_add_eq_or_of_lt (i := 6) (b := c) hc (b % 67108864)
  rw [Nat.shiftLeft_eq] at h
  rw [show b * 64 % 4294967296 = b % 67108864 * 2 ^ 6 by omega, ← h]
theorem lt8 (x : UInt8) : x.toNat < 256 := x.toNat_lt
theorem encGo_0 (x : UInt8) (l : List UInt8) (b : Nat) (out : List UInt8) : encGo (x :: l) b 0 out = encGo l (b % 16777216 * 256 + x.toNat) 2 (out ++ [letB (x.toNat / 4)]) := by
  have hx := lt8 x
  rw [encGo, or8 _ _ hx]
  have e : (b % 16777216 * 256 + x.toNat) / 2 ^ (0 + 8 - 6) % 64 = x.toNat / 4 := by simp only [Nat.zero_add, Nat.reduceSub, Nat.reducePow]; omega
  simp only [encEm, e, show (6 ≤ 0 + 8) = True by simp, if_true, show (6 ≤ 0 + 8 - 6) = False by simp, if_false]
theorem encGo_2 (x : UInt8) (l : List UInt8) (b : Nat) (out : List UInt8) : encGo (x :: l) b 2 out = encGo l (b % 16777216 * 256 + x.toNat) 4 (out ++ [letB (b % 4 * 16 + x.toNat / 16)]) := by
  have hx := lt8 x
  rw [encGo, or8 _ _ hx]
  have e : (b % 16777216 * 256 + x.toNat) / 2 ^ (2 + 8 - 6) % 64 = b % 4 * 16 + x.toNat / 16 := by simp only [Nat.reduceAdd, Nat.reduceSub, Nat.reducePow]; omega
  simp only [encEm, e, show (6 ≤ 2 + 8) = True by simp, if_true, show (6 ≤ 2 + 8 - 6) = False by simp, if_false]
theorem encGo_4 (x : UInt8) (l : List UInt8) (b : Nat) (out : List UInt8) : encGo (x :: l) b 4 out = encGo l (b % 16777216 * 256 + x.toNat) 0 (out ++ [letB (b % 16 * 4 + x.toNat / 64), letB (x.toNat % 64)]) := by
  have hx := lt8 x
  rw [encGo, or8 _ _ hx]
  have e : (b % 16777216 * 256 + x.toNat) / 2 ^ (4 + 8 - 6) % 64 = b % 16 * 4 + x.toNat / 64 := by simp only [Nat.reduceAdd, Nat.reduceSub, Nat.reducePow]; omega
  have e' : (b % 16777216 * 256 + x.toNat) / 2 ^ (4 + 8 - 6 - 6) % 64 = x.toNat % 64 := by simp only [Nat.reduceAdd, Nat.reduceSub, Nat.reducePow]; omega
  simp only [encEm, e, e', show (6 ≤ 4 + 8) = True by simp, if_true, show (6 ≤ 4 + 8 - 6) = True by simp, show (6 ≤ 4 + 8 - 6 - 6) = False by simp, if_false, List.append_assoc, List.cons_append, List.nil_append]
theorem m16 (t y : Nat) : (t * 256 + y) % 16 = y % 16 := by omega
theorem enc_is : ∀ (s : List UInt8) (b : Nat) (out : List UInt8), encLast (encGo s b 0 out) = out ++ enc4 s
  | [], b, out => by simp [encGo, encLast, enc4]
  | [x], b, out => by
    rw [encGo_0, encGo, encLast]
    have hx := lt8 x
    have e : (b % 16777216 * 256 + x.toNat) * 2 ^ (6 - 2) % 4294967296 % 64 = x.toNat % 4 * 16 := by simp only [Nat.reduceSub, Nat.reducePow]; omega
    simp only [e, enc4, show (0 < 2) = True by simp, if_true, List.append_assoc, List.cons_append, List.nil_append]
  | [x, y], b, out => by
    rw [encGo_0, encGo_2, encGo, encLast]
    have hx := lt8 x
    have hy := lt8 y
    have e0 : (b % 16777216 * 256 + x.toNat) % 4 = x.toNat % 4 := by omega
    have e : ((b % 16777216 * 256 + x.toNat) % 16777216 * 256 + y.toNat) * 2 ^ (6 - 4) % 4294967296 % 64 = y.toNat % 16 * 4 := by simp only [Nat.reduceSub, Nat.reducePow]; omega
    simp only [e, e0, enc4, show (0 < 4) = True by simp, if_true, List.append_assoc, List.cons_append, List.nil_append]
  | x :: y :: z :: l, b, out => by
    rw [encGo_0, encGo_2, encGo_4, enc_is l]
    have hx := lt8 x
    have hy := lt8 y
    have e0 : (b % 16777216 * 256 + x.toNat) % 4 = x.toNat % 4 := by omega
    have e1 : ((b % 16777216 * 256 + x.toNat) % 16777216 * 256 + y.toNat) % 16 = y.toNat % 16 := m16 _ _
    simp only [e0, e1, enc4, List.append_assoc, List.cons_append, List.nil_append]
set_option maxRecDepth 8000 in
theorem idx_let : ∀ k < 64, indexByte b64L (letB k) = (k : Int) := by decide +kernel
theorem let_ok : ∀ k < 64, letB k ≠ 61 ∧ letB k ≠ 32 ∧ letB k ≠ 10 ∧ letB k ≠ 13 := by decide +kernel
theorem decGo_0 (k : Nat) (hk : k < 64) (l : List UInt8) (b : Nat) (out : List UInt8) : decGo (letB k :: l) b 0 out = decGo l (b % 67108864 * 64 + k) 6 out := by
  simp only [decGo, decStep, idx_let k hk, show ¬ ((k : Int) < 0) by omega, if_false, Int.toNat_natCast, or6 _ _ hk, show ¬ (8 ≤ 0 + 6) by omega, Nat.zero_add]
theorem decGo_n (n : Nat) (hn : 2 ≤ n) (k : Nat) (hk : k < 64) (l : List UInt8) (b : Nat) (out : List UInt8) (x : UInt8) (hx : (b % 67108864 * 64 + k) / 2 ^ (n - 2) % 256 = x.toNat) : decGo (letB k :: l) b n out = decGo l (b % 67108864 * 64 + k) (n - 2) (out ++ [x]) := by
  have e : UInt8.ofNat ((b % 67108864 * 64 + k) / 2 ^ (n - 2)) = x := by
    apply UInt8.toNat_inj.1; rw [UInt8.toNat_ofNat']; exact hx
  simp only [decGo, decStep, idx_let k hk, show ¬ ((k : Int) < 0) by omega, if_false, Int.toNat_natCast, or6 _ _ hk, show (8 ≤ n + 6) = True by simp; omega, if_true, e]
theorem dec_is : ∀ (s : List UInt8) (b : Nat) (out : List UInt8), ∃ b' n', decGo (enc4 s) b 0 out = some (b', n', out ++ s) ∧ b' % 2 ^ n' = 0
  | [], b, out => ⟨b, 0, by simp [enc4, decGo], by simp [Nat.mod_one]⟩
  | [x], b, out => by
    have hx := lt8 x
    refine ⟨(b % 67108864 * 64 + x.toNat / 4) % 67108864 * 64 + x.toNat % 4 * 16, 4, ?_, ?_⟩
    · rw [enc4, decGo_0 _ (by omega), decGo_n 6 (by omega) _ (by omega) _ _ _ x (by simp only [Nat.reduceSub, Nat.reducePow]; omega), decGo]
    · simp only [Nat.reducePow]; omega
  | [x, y], b, out => by
    have hx := lt8 x
    have hy := lt8 y
    refine ⟨((b % 67108864 * 64 + x.toNat / 4) % 67108864 * 64 + (x.toNat % 4 * 16 + y.toNat / 16)) % 67108864 * 64 + y.toNat % 16 * 4, 2, ?_, ?_⟩
    · rw [enc4, decGo_0 _ (by omega), decGo_n 6 (by omega) _ (by omega) _ _ _ x (by simp only [Nat.reduceSub, Nat.reducePow]; omega), decGo_n 4 (by omega) _ (by omega) _ _ _ y (by simp only [Nat.reduceSub, Nat.reducePow]; omega), decGo, List.append_assoc]; rfl
    · simp only [Nat.reducePow]; omega
  | x :: y :: z :: l, b, out => by
    have hx := lt8 x
    have hy := lt8 y
    have hz := lt8 z
    rw [enc4, decGo_0 _ (by omega), decGo_n 6 (by omega) _ (by omega) _ _ _ x (by simp only [Nat.reduceSub, Nat.reducePow]; omega), decGo_n 4 (by omega) _ (by omega) _ _ _ y (by simp only [Nat.reduceSub, Nat.reducePow]; omega), decGo_n 2 (by omega) _ (by omega) _ _ _ z (by simp only [Nat.reduceSub, Nat.reducePow]; omega)]
    obtain ⟨b', n', h1, h2⟩ := dec_is l _ (out ++ [x] ++ [y] ++ [z])
    exact ⟨b', n', by rw [h1]; simp, h2⟩
theorem enc4_mem : ∀ (s : List UInt8), ∀ c ∈ enc4 s, c ≠ 61 ∧ c ≠ 32 ∧ c ≠ 10 ∧ c ≠ 13
  | [], c, h => by simp [enc4] at h
  | [x], c, h => by
    have hx := lt8 x
    simp only [enc4, List.mem_cons, List.not_mem_nil, or_false] at h
    rcases h with rfl | rfl <;> exact let_ok _ (by omega)
  | [x, y], c, h => by
    have hx := lt8 x
    have hy := lt8 y
    simp only [enc4, List.mem_cons, List.not_mem_nil, or_false] at h
    rcases h with rfl | rfl | rfl <;> exact let_ok _ (by omega)
  | x :: y :: z :: l, c, h => by
    have hx := lt8 x
    have hy := lt8 y
    have hz := lt8 z
    simp only [enc4, List.mem_cons] at h
    rcases h with rfl | rfl | rfl | rfl | h
    · exact let_ok _ (by omega)
    · exact let_ok _ (by omega)
    · exact let_ok _ (by omega)
    · exact let_ok _ (by omega)
    · exact enc4_mem l c h
theorem enc4_len : ∀ (s : List UInt8), (enc4 s).length = (4 * s.length + 2) / 3
  | [] => rfl
  | [x] => by simp [enc4]
  | [x, y] => by simp [enc4]
  | x :: y :: z :: l => by simp only [enc4, List.length_cons, enc4_len l]; omega
theorem encB_is (s : List UInt8) : encB s = enc4 s ++ List.replicate ((4 - (enc4 s).length % 4) % 4) 61 := by
  unfold encB; rw [enc_is, List.nil_append]
theorem noFill_is (s : List UInt8) (m : Nat) : noFill (enc4 s ++ List.replicate m 61) = enc4 s := by
  unfold noFill
  rw [List.reverse_append, List.reverse_replicate, List.dropWhile_append_of_pos (by intro a ha; rw [List.eq_of_mem_replicate ha]; decide)]
  cases hr : (enc4 s).reverse with
  | nil => have : enc4 s = [] := by simpa using hr
           rw [this]; rfl
  | cons c l =>
    have hc := enc4_mem s c (by rw [← List.mem_reverse, hr]; simp)
    rw [List.dropWhile_cons_of_neg (by simp [hc.1]), ← hr, List.reverse_reverse]
theorem dec_enc (s : List UInt8) : decB (encB s) = some s := by
  obtain ⟨b', n', h1, h2⟩ := dec_is s 0 []
  have hl := enc4_len s
  rw [encB_is]
  unfold decB
  simp only [noFill_is, List.length_append, List.length_replicate, h1, List.nil_append, h2, if_true]
  rw [if_neg]
  omega
theorem encB_len (s : List UInt8) : (encB s).length = (s.length + 2) / 3 * 4 := by
  have hl := enc4_len s
  rw [encB_is, List.length_append, List.length_replicate]; omega
end Go.Proofs.YtehfcboiimdkbaaGreatDoor
/- What b64.Decode takes is what b64.Encode wrote. No program in sight. -/
namespace Go.Proofs.YtehfcboiimdkbaaGreatDoor
set_option linter.unusedSimpArgs false
set_option linter.unusedVariables false
open Go.Lib
set_option maxRecDepth 8000 in
theorem idx_back' : ∀ n < 256, indexByte b64L (UInt8.ofNat n) < 0 ∨ ((indexByte b64L (UInt8.ofNat n)).toNat < 64 ∧ UInt8.ofNat n = letB (indexByte b64L (UInt8.ofNat n)).toNat) := by decide +kernel
theorem idx_back (c : UInt8) : indexByte b64L c < 0 ∨ ∃ k, k < 64 ∧ c = letB k := by
  have h := idx_back' c.toNat c.toNat_lt
  rw [UInt8.ofNat_toNat] at h
  rcases h with h | h
  · exact .inl h
  · exact .inr ⟨_, h.1, h.2⟩
theorem decGo_let {c : UInt8} {l : List UInt8} {b n : Nat} {out : List UInt8} {r : Nat × Nat × List UInt8} (h : decGo (c :: l) b n out = some r) : ∃ k, k < 64 ∧ c = letB k := by
  rcases idx_back c with hc | hc
  · simp [decGo, decStep, hc] at h
  · exact hc
theorem toN (n : Nat) (h : n < 256) : (UInt8.ofNat n).toNat = n := by rw [UInt8.toNat_ofNat']; exact Nat.mod_eq_of_lt h
theorem g1 (k1 k2 : Nat) (h1 : k1 < 64) (h2 : k2 < 64) : (UInt8.ofNat (k1 * 4 + k2 / 16)).toNat = k1 * 4 + k2 / 16 := toN _ (by omega)
theorem g2 (k2 k3 : Nat) (h2 : k2 < 64) (h3 : k3 < 64) : (UInt8.ofNat (k2 % 16 * 16 + k3 / 4)).toNat = k2 % 16 * 16 + k3 / 4 := toN _ (by omega)
theorem g3 (k3 k4 : Nat) (h3 : k3 < 64) (h4 : k4 < 64) : (UInt8.ofNat (k3 % 4 * 64 + k4)).toNat = k3 % 4 * 64 + k4 := toN _ (by omega)
theorem dec_back' : ∀ (s : List UInt8) (b : Nat) (out : List UInt8) (r : Nat × Nat × List UInt8), decGo s b 0 out = some r → s.length % 4 ≠ 1 → r.1 % 2 ^ r.2.1 = 0 → ∃ t, r.2.2 = out ++ t ∧ s = enc4 t
  | [], b, out, r, h, _, _ => ⟨[], by simp only [decGo, Option.some.injEq] at h; rw [← h]; simp, rfl⟩
  | [c], b, out, r, h, hl, _ => absurd rfl hl
  | [c, d], b, out, r, h, _, hz => by
    obtain ⟨k1, h1, rfl⟩ := decGo_let h
    rw [decGo_0 _ h1] at h
    obtain ⟨k2, h2, rfl⟩ := decGo_let h
    have e1 := g1 k1 k2 h1 h2
    rw [decGo_n 6 (by omega) _ h2 _ _ _ (UInt8.ofNat (k1 * 4 + k2 / 16)) (by rw [e1]; simp only [Nat.reduceSub, Nat.reducePow]; omega), decGo] at h
    simp only [Option.some.injEq] at h
    subst h
    simp only [Nat.reduceSub, Nat.reducePow] at hz
    refine ⟨[UInt8.ofNat (k1 * 4 + k2 / 16)], rfl, ?_⟩
    rw [enc4, e1, show (k1 * 4 + k2 / 16) / 4 = k1 by omega, show (k1 * 4 + k2 / 16) % 4 * 16 = k2 by omega]
  | [c, d, e], b, out, r, h, _, hz => by
    obtain ⟨k1, h1, rfl⟩ := decGo_let h
    rw [decGo_0 _ h1] at h
    obtain ⟨k2, h2, rfl⟩ := decGo_let h
    have e1 := g1 k1 k2 h1 h2
    rw [decGo_n 6 (by omega) _ h2 _ _ _ (UInt8.ofNat (k1 * 4 + k2 / 16)) (by rw [e1]; simp only [Nat.reduceSub, Nat.reducePow]; omega)] at h
    obtain ⟨k3, h3, rfl⟩ := decGo_let h
    have e2 := g2 k2 k3 h2 h3
    rw [decGo_n 4 (by omega) _ h3 _ _ _ (UInt8.ofNat (k2 % 16 * 16 + k3 / 4)) (by rw [e2]; simp only [Nat.reduceSub, Nat.reducePow]; omega), decGo] at h
    simp only [Option.some.injEq] at h
    subst h
    simp only [Nat.reduceSub, Nat.reducePow] at hz
    refine ⟨[UInt8.ofNat (k1 * 4 + k2 / 16), UInt8.ofNat (k2 % 16 * 16 + k3 / 4)], by simp, ?_⟩
    rw [enc4, e1, e2, show (k1 * 4 + k2 / 16) / 4 = k1 by omega, show (k1 * 4 + k2 / 16) % 4 * 16 + (k2 % 16 * 16 + k3 / 4) / 16 = k2 by omega, show (k2 % 16 * 16 + k3 / 4) % 16 * 4 = k3 by omega]
  | c :: d :: e :: f :: l, b, out, r, h, hl, hz => by
    obtain ⟨k1, h1, rfl⟩ := decGo_let h
    rw [decGo_0 _ h1] at h
    obtain ⟨k2, h2, rfl⟩ := decGo_let h
    have e1 := g1 k1 k2 h1 h2
    rw [decGo_n 6 (by omega) _ h2 _ _ _ (UInt8.ofNat (k1 * 4 + k2 / 16)) (by rw [e1]; simp only [Nat.reduceSub, Nat.reducePow]; omega)] at h
    obtain ⟨k3, h3, rfl⟩ := decGo_let h
    have e2 := g2 k2 k3 h2 h3
    rw [decGo_n 4 (by omega) _ h3 _ _ _ (UInt8.ofNat (k2 % 16 * 16 + k3 / 4)) (by rw [e2]; simp only [Nat.reduceSub, Nat.reducePow]; omega)] at h
    obtain ⟨k4, h4, rfl⟩ := decGo_let h
    have e3 := g3 k3 k4 h3 h4
    rw [decGo_n 2 (by omega) _ h4 _ _ _ (UInt8.ofNat (k3 % 4 * 64 + k4)) (by rw [e3]; simp only [Nat.reduceSub, Nat.reducePow]; omega)] at h
    obtain ⟨t, ht, hs⟩ := dec_back' l _ _ r h (by intro e; apply hl; simp only [List.length_cons]; omega) hz
    refine ⟨UInt8.ofNat (k1 * 4 + k2 / 16) :: UInt8.ofNat (k2 % 16 * 16 + k3 / 4) :: UInt8.ofNat (k3 % 4 * 64 + k4) :: t, by rw [ht]; simp, ?_⟩
    rw [enc4, e1, e2, e3, ← hs, show (k1 * 4 + k2 / 16) / 4 = k1 by omega, show (k1 * 4 + k2 / 16) % 4 * 16 + (k2 % 16 * 16 + k3 / 4) / 16 = k2 by omega, show (k2 % 16 * 16 + k3 / 4) % 16 * 4 + (k3 % 4 * 64 + k4) / 64 = k3 by omega, show (k3 % 4 * 64 + k4) % 64 = k4 by omega]
theorem noFill_pad (s : List UInt8) : s = noFill s ++ List.replicate (s.length - (noFill s).length) 61 := by
  have h := List.takeWhile_append_dropWhile (p := (· == (61 : UInt8))) (l := s.reverse)
  have hr : s = noFill s ++ (s.reverse.takeWhile (· == 61)).reverse := by
    have := congrArg List.reverse h
    rw [List.reverse_append, List.reverse_reverse] at this
    exact this.symm
  have hl : (s.reverse.takeWhile (· == (61 : UInt8))).reverse = List.replicate (s.length - (noFill s).length) 61 := by
    apply List.eq_replicate_iff.2
    constructor
    · have := congrArg List.length hr
      rw [List.length_append] at this
      omega
    · intro x hx
      have := List.all_eq_true.1 (List.all_takeWhile (p := (· == (61 : UInt8))) (l := s.reverse)) x (List.mem_reverse.1 hx)
      simpa using this
  rw [hl] at hr
  exact hr
theorem dec_back {s t : List UInt8} (h : decB s = some t) : s = encB t := by
  unfold decB at h
  simp only at h
  split at h
  · cases h
  rename_i hc
  have hp := noFill_pad s
  have hlen : (noFill s).length ≤ s.length := by
    have := congrArg List.length hp
    rw [List.length_append] at this; omega
  cases hd : decGo (noFill s) 0 0 [] with
  | none => rw [hd] at h; cases h
  | some r =>
    obtain ⟨b, n, out⟩ := r
    rw [hd] at h
    simp only at h
    split at h
    · rename_i hz
      simp only [Option.some.injEq] at h
      subst h
      obtain ⟨t, ht, hs⟩ := dec_back' _ _ _ _ hd (by omega) hz
      simp only [List.nil_append] at ht
      subst ht
      rw [encB_is, ← hs]
      have : s.length - (noFill s).length = (4 - (noFill s).length % 4) % 4 := by omega
      rw [← this]
      exact hp
    · cases h
theorem decB_iff (s t : List UInt8) : decB s = some t ↔ s = encB t := ⟨dec_back, fun h => by rw [h]; exact dec_enc t⟩
end Go.Proofs.YtehfcboiimdkbaaGreatDoor
/- What a connection does with bytes (package conn), as plain functions. No program in sight. -/
namespace Go.Proofs.YtehfcboiimdkbaaGreatDoor
set_option linter.unusedSimpArgs false
set_option linter.unusedVariables false
open Go.RowKit
structure Gq where
  kind : Int
  cmds : List Cd
  quiet : Bool
  tokens : Bool
  reply : List UInt8
  arg : List UInt8
  skip : Int
  close : Bool
  name : List UInt8
  flags : List (List UInt8)
  word : List UInt8
def Gq.zero : Gq := ⟨0, [], false, false, [], [], 0, false, [], [], []⟩
def gqM (r : Mq) : Gq := ⟨r.kind, r.cmds, r.quiet, false, r.reply, [], r.skip, r.close, r.name, r.flags, r.word⟩
def gqT (r : Rq) : Gq := ⟨r.kind, r.cmds, r.quiet, r.tokens, r.reply, r.arg, r.skip, r.close, [], [], r.word⟩
def firstW (b : List UInt8) : List UInt8 := ((lineV (b.take 2048)).1.dropWhile (· == 32)).takeWhile (· != 32)
def metaB (name : List UInt8) : Bool := match name with
  | [m, x] => m == 109 && [110, 101, 103, 115, 100, 97].contains x
  | _ => false
def cParse (b : List UInt8) : Gq × Int := if metaB (firstW b) then (gqM (mParse b).1, (mParse b).2) else (gqT (tParse b).1, (tParse b).2)
structure Cn where
  inp : List UInt8
  out : List UInt8
  skip : Int
  ends : Bool
def Cn.zero : Cn := ⟨[], [], 0, false⟩
def cnFeed (c : Cn) (b : List UInt8) : Cn × Int :=
  if c.ends then (c, 0)
  else ({ c with skip := c.skip - ((min c.skip.toNat b.length : Nat) : Int), inp := c.inp ++ (b.drop (min c.skip.toNat b.length)).take (min (b.length - min c.skip.toNat b.length) (70000 - c.inp.length)) },
    ((min c.skip.toNat b.length + min (b.length - min c.skip.toNat b.length) (70000 - c.inp.length) : Nat) : Int))
def cnHang (c : Cn) : Cn := { c with ends := true, inp := [] }
def cnPass (c : Cn) (r : Gq) (n : Nat) : Cn := { c with inp := c.inp.drop (n + min r.skip.toNat (c.inp.length - n)), skip := r.skip - ((min r.skip.toNat (c.inp.length - n) : Nat) : Int) }
def cnNext (c : Cn) : Cn × Gq × Bool :=
  if c.ends = true ∨ 100000 ≤ c.out.length then (c, Gq.zero, false)
  else if (cParse c.inp).1.kind = 0 then (c, Gq.zero, false)
  else (if (cParse c.inp).1.close then cnHang (cnPass c (cParse c.inp).1 (cParse c.inp).2.toNat) else cnPass c (cParse c.inp).1 (cParse c.inp).2.toNat, (cParse c.inp).1, true)
def cnPut (c : Cn) (s : List UInt8) : Cn := { c with out := c.out ++ s }
def cnHow (c : Cn) (n : Int) : Nat := min n.toNat c.out.length
def cnWrite (c : Cn) (n : Int) : Cn × List UInt8 := ({ c with out := c.out.drop (cnHow c n) }, c.out.take (cnHow c n))
structure CnOk (c : Cn) : Prop where
  inp : c.inp.length ≤ 70000
  out : c.out.length ≤ 1000000000000
  s0 : 0 ≤ c.skip
  s1 : c.skip ≤ 1073741826
theorem CnOk.zero : CnOk Cn.zero := ⟨Nat.zero_le _, Nat.zero_le _, Int.le_refl _, by decide⟩
theorem CnOk.feed {c : Cn} (h : CnOk c) (b : List UInt8) : CnOk (cnFeed c b).1 := by
  obtain ⟨h1, h2, h3, h4⟩ := h
  unfold cnFeed
  split
  · exact ⟨h1, h2, h3, h4⟩
  · refine ⟨?_, h2, ?_, ?_⟩
    · simp only [List.length_append, List.length_take, List.length_drop]; omega
    · simp only; omega
    · simp only; omega
theorem CnOk.hang {c : Cn} (h : CnOk c) : CnOk (cnHang c) := ⟨Nat.zero_le _, h.out, h.s0, h.s1⟩
theorem CnOk.pass {c : Cn} (h : CnOk c) {r : Gq} (h0 : 0 ≤ r.skip) (h1 : r.skip ≤ 1073741826) (n : Nat) : CnOk (cnPass c r n) := by
  obtain ⟨k1, k2, k3, k4⟩ := h
  refine ⟨?_, k2, ?_, ?_⟩
  · simp only [cnPass, List.length_drop]; omega
  · simp only [cnPass]; omega
  · simp only [cnPass]; omega
theorem CnOk.put {c : Cn} (h : CnOk c) {s : List UInt8} (hs : c.out.length + s.length ≤ 1000000000000) : CnOk (cnPut c s) := ⟨h.inp, by simp only [cnPut, List.length_append]; exact hs, h.s0, h.s1⟩
end Go.Proofs.YtehfcboiimdkbaaGreatDoor
/- What a request of either protocol passes over, and what it uses, in bounds. No program in sight. -/
namespace Go.Proofs.YtehfcboiimdkbaaGreatDoor
set_option linter.unusedSimpArgs false
set_option linter.unusedVariables false
open Go.RowKit
def SkipOk (n : Int) : Prop := 0 ≤ n ∧ n ≤ 1073741826
def rdSkip : Rd' → Int
  | .fault _ => 0
  | .got r _ _ => r.skip
theorem skip0 : SkipOk 0 := ⟨Int.le_refl _, by decide⟩
theorem skip_get (name : List UInt8) (w : List (List UInt8)) : SkipOk (rdSkip (getR name w)) := by
  unfold getR
  simp only
  repeat' split
  all_goals exact skip0
theorem skip_store (name : List UInt8) (w : List (List UInt8)) (behind : List UInt8) : SkipOk (rdSkip (storeR name w behind)) := by
  unfold storeR
  simp only
  split
  · exact skip0
  · split
    · exact skip0
    · rename_i n _
      by_cases h : 1073741824 < n
      · rw [if_pos h]; exact skip0
      · rw [if_neg h]
        have hk : SkipOk ((n + 2 : Nat) : Int) := ⟨by omega, by omega⟩
        repeat' split
        all_goals first | exact skip0 | exact hk
theorem skip_key (s : List UInt8) (k : List UInt8 → Rd') (h : ∀ x, SkipOk (rdSkip (k x))) : SkipOk (rdSkip (okKey s k)) := by
  unfold okKey
  split
  · exact h _
  · exact skip0
theorem skip_plain (name : List UInt8) (w : List (List UInt8)) : SkipOk (rdSkip (plainR name w)) := by
  unfold plainR
  simp only
  repeat' split
  all_goals first
    | exact skip0
    | (refine skip_key _ _ fun x => ?_; (repeat' split) <;> exact skip0)
theorem skip_read (name : List UInt8) (w : List (List UInt8)) (behind : List UInt8) : SkipOk (rdSkip (readR name w behind)) := by
  unfold readR
  split
  · exact skip_get _ _
  · split
    · exact skip_store _ _ _
    · exact skip_plain _ _
theorem skipT (b : List UInt8) : SkipOk (tParse b).1.skip := by
  unfold tParse
  simp only
  split
  · split
    · exact skip0
    · exact skip0
  · cases wordsF _ _ with
    | nil => exact skip0
    | cons name w =>
      show SkipOk (endR _ (readR name w _)).1.skip
      have h := skip_read name w (b.drop (lineV (b.take 2048)).2)
      cases hr : readR name w (b.drop (lineV (b.take 2048)).2) with
      | fault f => exact skip0
      | got r more used =>
        rw [hr] at h
        cases more with
        | true => exact skip0
        | false => exact h
theorem skip_rest (name word : List UInt8) (l : List (List UInt8)) (size : Nat) (behind : List UInt8) (hs : size ≤ 1073741826) : SkipOk (restM name word l size behind).1.skip := by
  unfold restM
  repeat' split
  all_goals first
    | exact skip0
    | exact ⟨by show (0 : Int) ≤ (size : Int); omega, by show (size : Int) ≤ 1073741826; omega⟩
theorem skipM (b : List UInt8) : SkipOk (mParse b).1.skip := by
  unfold mParse
  simp only
  split
  · split
    · exact skip0
    · exact skip0
  · cases wordsF _ _ with
    | nil => exact skip0
    | cons name w =>
      rw [lineM]
      split
      · split
        · exact skip0
        · show SkipOk (readM name w _).1.skip
          unfold readM
          split
          · exact skip0
          · split
            · split
              · exact skip0
              · split
                · rename_i h
                  refine skip_rest _ _ _ _ _ ?_
                  simp only [Bool.and_eq_true, decide_eq_true_eq] at h
                  omega
                · exact skip0
            · exact skip_rest _ _ _ _ _ (Nat.zero_le _)
      · split
        · exact skip0
        · exact skip0
theorem skipC (b : List UInt8) : SkipOk (cParse b).1.skip := by
  unfold cParse
  split
  · exact skipM b
  · exact skipT b
theorem cparse_len {b : List UInt8} (h : (cParse b).1.kind ≠ 0) : 0 < (cParse b).2 ∧ (cParse b).2 ≤ (b.length : Int) := by
  unfold cParse at h ⊢
  split at h
  · rename_i hm; rw [if_pos hm]; exact (mparse_pre (r := []) h).2
  · rename_i hm; rw [if_neg hm]; exact (parse_pre (r := []) h).2
theorem CnOk.next {c : Cn} (h : CnOk c) : CnOk (cnNext c).1 := by
  unfold cnNext
  split
  · exact h
  · split
    · exact h
    · obtain ⟨h1, h2⟩ := skipC c.inp
      split
      · exact (h.pass h1 h2 _).hang
      · exact h.pass h1 h2 _
end Go.Proofs.YtehfcboiimdkbaaGreatDoor
/- However bytes come, the requests of a connection are the same. No program in sight. -/
namespace Go.Proofs.YtehfcboiimdkbaaGreatDoor
set_option linter.unusedSimpArgs false
set_option linter.unusedVariables false
open Go.RowKit
theorem line_pre {a r : List UInt8} (h : (lineV (a.take 2048)).2 ≠ 0 ∨ 2048 ≤ a.length) : lineV ((a ++ r).take 2048) = lineV (a.take 2048) := by
  have htk : (a ++ r).take 2048 = a.take 2048 ++ r.take (2048 - a.length) := List.take_append
  rcases h with h | h
  · rw [htk]; exact (lineV_pre h).1
  · rw [htk, show 2048 - a.length = 0 by omega]; simp
theorem cparse_pre {a r : List UInt8} (h : (cParse a).1.kind ≠ 0) : cParse (a ++ r) = cParse a := by
  have hl : (lineV (a.take 2048)).2 ≠ 0 ∨ 2048 ≤ a.length := by
    refine Decidable.byContradiction fun hd => h ?_
    obtain ⟨h1, h2⟩ := not_or.1 hd
    have h1 := Decidable.not_not.1 h1
    unfold cParse
    split
    · show (mParse a).1.kind = 0
      unfold mParse; simp only; rw [if_pos h1, if_pos (by omega)]; rfl
    · show (tParse a).1.kind = 0
      unfold tParse; simp only; rw [if_pos h1, if_pos (by omega)]; rfl
  have hf : firstW (a ++ r) = firstW a := by unfold firstW; rw [line_pre hl]
  unfold cParse at h ⊢
  rw [hf]
  split at h
  · rename_i hm; rw [if_pos hm, if_pos hm, (mparse_pre (r := r) h).1]
  · rename_i hm; rw [if_neg hm, if_neg hm, (parse_pre (r := r) h).1]
structure CnFit (c : Cn) : Prop where
  s0 : 0 ≤ c.skip
  sk : c.skip ≠ 0 → c.inp = []
  en : c.ends = true → c.inp = []
theorem next_feed {c c1 : Cn} {r : Gq} {x : List UInt8} (hc : CnFit c) (hn : cnNext c = (c1, r, true)) (hx : c.inp.length + x.length ≤ 70000) (hcl : r.close = true → r.skip = 0) :
    cnNext (cnFeed c x).1 = ((cnFeed c1 x).1, r, true) ∧ CnFit c1 ∧ c1.out = c.out ∧ c1.inp.length < c.inp.length := by
  unfold cnNext at hn
  by_cases h1 : c.ends = true ∨ 100000 ≤ c.out.length
  · rw [if_pos h1] at hn; simp at hn
  rw [if_neg h1] at hn
  by_cases h2 : (cParse c.inp).1.kind = 0
  · rw [if_pos h2] at hn; simp at hn
  rw [if_neg h2] at hn
  have he : c.ends = false := by cases h : c.ends with | false => rfl | true => exact absurd (.inl h) h1
  have hin : c.inp ≠ [] := fun e => by
    obtain ⟨q1, q2⟩ := cparse_len h2
    rw [e] at q1 q2; simp at q2; omega
  have hs : c.skip = 0 := Decidable.byContradiction fun h => hin (hc.sk h)
  have hfd : (cnFeed c x).1 = { c with inp := c.inp ++ x } := by
    unfold cnFeed
    rw [if_neg (by rw [he]; simp), hs]
    have : min (Int.toNat 0) x.length = 0 := by simp
    simp only [this, Nat.sub_zero, List.drop_zero]
    rw [List.take_of_length_le (by omega)]
    cases c; simp at hs ⊢
  obtain ⟨q1, q2⟩ := cparse_len h2
  obtain ⟨s1, s2⟩ := skipC c.inp
  have hpre := cparse_pre (r := x) h2
  obtain ⟨n, hnn⟩ : ∃ n : Nat, (cParse c.inp).2 = (n : Int) := ⟨(cParse c.inp).2.toNat, by omega⟩
  obtain ⟨s, hss⟩ : ∃ s : Nat, (cParse c.inp).1.skip = (s : Int) := ⟨(cParse c.inp).1.skip.toNat, by omega⟩
  rw [hnn] at q1 q2
  simp only [Prod.mk.injEq, and_true] at hn
  obtain ⟨hn1, hn2⟩ := hn
  rw [hn2] at hss s1 s2 hn1
  rw [hnn, Int.toNat_natCast] at hn1
  have hcl2 := hcl
  rw [hss] at hcl2
  have hpass : ∀ inp : List UInt8, cnPass { c with inp := inp } r n = { c with inp := inp.drop (n + min s (inp.length - n)), skip := ((s - min s (inp.length - n) : Nat) : Int) } := fun inp => by
    unfold cnPass; rw [hss, Int.toNat_natCast]; simp only [Cn.mk.injEq, true_and, and_true]; omega
  have hpc : cnPass c r n = { c with inp := c.inp.drop (n + min s (c.inp.length - n)), skip := ((s - min s (c.inp.length - n) : Nat) : Int) } := by
    have := hpass c.inp; exact this
  have hnx : cnNext (cnFeed c x).1 = (if r.close then cnHang (cnPass { c with inp := c.inp ++ x } r n) else cnPass { c with inp := c.inp ++ x } r n, r, true) := by
    rw [hfd]
    unfold cnNext
    rw [if_neg h1]
    simp only [hpre]
    rw [if_neg h2, hn2, hnn, Int.toNat_natCast]
  rw [hnx]
  by_cases hclose : r.close = true
  · rw [if_pos hclose] at hn1 ⊢
    have hs0 : s = 0 := by have := hcl2 hclose; omega
    subst hs0
    rw [hpass]
    rw [hpc] at hn1
    subst hn1
    refine ⟨?_, ⟨by simp [cnHang], fun _ => rfl, fun _ => rfl⟩, rfl, ?_⟩
    · simp [cnHang, cnFeed]
    · show 0 < _; exact List.length_pos_iff.2 hin
  · rw [if_neg hclose] at hn1 ⊢
    rw [hpass]
    rw [hpc] at hn1
    subst hn1
    refine ⟨?_, ⟨by simp only; omega, fun h => ?_, fun h => ?_⟩, rfl, ?_⟩
    · have hlx : (c.inp ++ x).length = c.inp.length + x.length := List.length_append
      unfold cnFeed
      rw [if_neg (by simp only; rw [he]; simp)]
      simp only [Int.toNat_natCast, Prod.mk.injEq, and_true, true_and, Cn.mk.injEq]
      rw [hlx]
      by_cases hle : s ≤ c.inp.length - n
      · have e1 : min s (c.inp.length - n) = s := by omega
        have e2 : min s (c.inp.length + x.length - n) = s := by omega
        rw [e1, e2]
        have e3 : min (s - s) x.length = 0 := by omega
        rw [e3]
        refine ⟨?_, by omega⟩
        rw [List.drop_zero, Nat.sub_zero, List.drop_append_of_le_length (by omega), List.take_of_length_le (by simp only [List.length_drop]; omega)]
      · have e1 : min s (c.inp.length - n) = c.inp.length - n := by omega
        rw [e1]
        have e4 : n + (c.inp.length - n) = c.inp.length := by omega
        rw [e4, List.drop_length, List.nil_append]
        refine ⟨?_, by omega⟩
        have e5 : n + min s (c.inp.length + x.length - n) = c.inp.length + min (s - (c.inp.length - n)) x.length := by omega
        rw [e5, List.drop_append]
        rw [List.drop_of_length_le (by omega), List.nil_append, List.take_of_length_le (by simp only [List.length_drop, List.length_nil]; omega)]
        congr 1; omega
    · have : s - min s (c.inp.length - n) ≠ 0 := fun e => h (by simp only [e]; rfl)
      have e1 : min s (c.inp.length - n) = c.inp.length - n := by omega
      simp only [e1]
      rw [show n + (c.inp.length - n) = c.inp.length by omega, List.drop_length]
    · simp only at h; rw [he] at h; cases h
    · simp only [List.length_drop]; omega
end Go.Proofs.YtehfcboiimdkbaaGreatDoor
/- However bytes come, the requests of a connection are the same: what is asked for till there is none. No program in sight. -/
namespace Go.Proofs.YtehfcboiimdkbaaGreatDoor
set_option linter.unusedSimpArgs false
set_option linter.unusedVariables false
open Go.RowKit
def ClT : Rd' → Prop
  | .fault _ => True
  | .got r _ _ => r.close = true → r.skip = 0
theorem cl_get (name : List UInt8) (w : List (List UInt8)) : ClT (getR name w) := by
  unfold getR
  simp only
  repeat' split
  all_goals first
    | exact trivial
    | (intro h; first | rfl | (exact Bool.noConfusion h))
theorem cl_store (name : List UInt8) (w : List (List UInt8)) (behind : List UInt8) : ClT (storeR name w behind) := by
  unfold storeR
  simp only
  repeat' split
  all_goals first
    | exact trivial
    | (intro h; first | rfl | (exact Bool.noConfusion h))
theorem cl_key (s : List UInt8) (k : List UInt8 → Rd') (h : ∀ x, ClT (k x)) : ClT (okKey s k) := by
  unfold okKey
  split
  · exact h _
  · exact trivial
theorem cl_plain (name : List UInt8) (w : List (List UInt8)) : ClT (plainR name w) := by
  unfold plainR
  simp only
  repeat' split
  all_goals first
    | exact trivial
    | (intro h; first | rfl | (exact Bool.noConfusion h))
    | (refine cl_key _ _ fun x => ?_; (repeat' split) <;> first | exact trivial | (intro h; first | rfl | (exact Bool.noConfusion h)))
theorem cl_read (name : List UInt8) (w : List (List UInt8)) (behind : List UInt8) : ClT (readR name w behind) := by
  unfold readR
  split
  · exact cl_get _ _
  · split
    · exact cl_store _ _ _
    · exact cl_plain _ _
theorem clsT (b : List UInt8) : (tParse b).1.close = true → (tParse b).1.skip = 0 := by
  unfold tParse
  simp only
  split
  · split
    · intro h; exact Bool.noConfusion h
    · intro _; rfl
  · cases wordsF _ _ with
    | nil => intro _; rfl
    | cons name w =>
      show (endR _ (readR name w _)).1.close = true → (endR _ (readR name w _)).1.skip = 0
      have h := cl_read name w (b.drop (lineV (b.take 2048)).2)
      cases hr : readR name w (b.drop (lineV (b.take 2048)).2) with
      | fault f => intro _; rfl
      | got r more used =>
        rw [hr] at h
        cases more with
        | true => intro _; rfl
        | false => exact h
def ClM (r : Mq) : Prop := r.close = true → r.skip = 0
theorem cl_rest (name word : List UInt8) (l : List (List UInt8)) (size : Nat) (behind : List UInt8) : ClM (restM name word l size behind).1 := by
  unfold restM
  repeat' split
  all_goals (intro h; first | rfl | (exact Bool.noConfusion h))
theorem clsM (b : List UInt8) : ClM (mParse b).1 := by
  unfold mParse
  simp only
  split
  · split
    · intro h; exact Bool.noConfusion h
    · intro _; rfl
  · cases wordsF _ _ with
    | nil => intro _; rfl
    | cons name w =>
      rw [lineM]
      split
      · split
        · intro _; rfl
        · show ClM (readM name w _).1
          unfold readM
          split
          · intro _; rfl
          · split
            · split
              · intro _; rfl
              · split
                · exact cl_rest _ _ _ _ _
                · intro _; rfl
            · exact cl_rest _ _ _ _ _
      · split
        · intro _; rfl
        · intro _; rfl
theorem clsC (b : List UInt8) : (cParse b).1.close = true → (cParse b).1.skip = 0 := by
  unfold cParse
  split
  · exact clsM b
  · exact clsT b
theorem feed_nil {c : Cn} (hc : CnFit c) : (cnFeed c []).1 = c := by
  unfold cnFeed
  split
  · rfl
  · have := hc.s0
    cases c
    simp
theorem feed_room {c : Cn} (hc : CnFit c) {x : List UInt8} (he : c.ends = false) (hx : c.inp.length + x.length ≤ 70000) :
    cnFeed c x = ({ c with skip := c.skip - ((min c.skip.toNat x.length : Nat) : Int), inp := c.inp ++ x.drop (min c.skip.toNat x.length) }, (x.length : Int)) := by
  unfold cnFeed
  rw [if_neg (by rw [he]; simp)]
  have h1 : min (x.length - min c.skip.toNat x.length) (70000 - c.inp.length) = x.length - min c.skip.toNat x.length := by omega
  rw [h1, List.take_of_length_le (by rw [List.length_drop]; omega)]
  congr 1
  omega
theorem feed_fit {c : Cn} (hc : CnFit c) {x : List UInt8} (hx : c.inp.length + x.length ≤ 70000) : CnFit (cnFeed c x).1 ∧ (cnFeed c x).1.inp.length ≤ c.inp.length + x.length ∧ (cnFeed c x).1.out = c.out ∧ (cnFeed c x).1.ends = c.ends := by
  cases he : c.ends with
  | true => 
    have : cnFeed c x = (c, 0) := by unfold cnFeed; rw [if_pos he]
    rw [this]
    exact ⟨hc, by simp only; omega, rfl, he⟩
  | false =>
    rw [feed_room hc he hx]
    have h0 := hc.s0
    refine ⟨⟨by simp only; omega, fun h => ?_, fun h => ?_⟩, ?_, rfl, he⟩
    · simp only at h ⊢
      have : min c.skip.toNat x.length = x.length := by omega
      rw [this, hc.sk (by omega)]
      simp
    · simp only at h; rw [he] at h; cases h
    · simp only [List.length_append, List.length_drop]; omega
theorem feed_app {c : Cn} (hc : CnFit c) {x y : List UInt8} (hx : c.inp.length + (x.length + y.length) ≤ 70000) : (cnFeed c (x ++ y)).1 = (cnFeed (cnFeed c x).1 y).1 := by
  cases he : c.ends with
  | true =>
    have h1 : ∀ z, cnFeed c z = (c, 0) := fun z => by unfold cnFeed; rw [if_pos he]
    rw [h1, h1, h1]
  | false =>
    obtain ⟨f1, f2, f3, f4⟩ := feed_fit hc (x := x) (by omega)
    rw [feed_room hc he (by rw [List.length_append]; omega), feed_room f1 (f4.trans he) (by omega), feed_room hc he (by omega)]
    have h0 := hc.s0
    have hlx : (x ++ y).length = x.length + y.length := List.length_append
    simp only [Cn.mk.injEq, and_true]
    rw [hlx]
    refine ⟨?_, trivial, by omega⟩
    rw [List.append_assoc]
    congr 1
    rcases Nat.lt_or_ge c.skip.toNat x.length with h | h
    · have e1 : min c.skip.toNat (x.length + y.length) = c.skip.toNat := by omega
      have e2 : min c.skip.toNat x.length = c.skip.toNat := by omega
      have e3 : min (c.skip - ((c.skip.toNat : Nat) : Int)).toNat y.length = 0 := by omega
      rw [e1, e2, e3, List.drop_zero, List.drop_append_of_le_length (by omega)]
    · have e2 : min c.skip.toNat x.length = x.length := by omega
      rw [e2, List.drop_length, List.nil_append, List.drop_append, List.drop_of_length_le (by omega), List.nil_append]
      congr 1; omega
inductive Dr : Cn → List Gq → Cn → Prop
  | nil {c : Cn} (h : (cnNext c).2.2 = false) : Dr c [] c
  | cons {c c1 c2 : Cn} {r : Gq} {l : List Gq} (h : cnNext c = (c1, r, true)) (t : Dr c1 l c2) : Dr c (r :: l) c2
theorem Dr.cons_inv {c c1 c2 : Cn} {r : Gq} {l : List Gq} (h : Dr c l c2) (hn : cnNext c = (c1, r, true)) : ∃ l', l = r :: l' ∧ Dr c1 l' c2 := by
  cases h with
  | nil h => rw [hn] at h; cases h
  | cons h t =>
    rw [hn] at h
    simp only [Prod.mk.injEq, and_true] at h
    obtain ⟨rfl, rfl⟩ := h
    exact ⟨_, rfl, t⟩
theorem Dr.nil_inv {c c2 : Cn} {l : List Gq} (h : Dr c l c2) (hn : (cnNext c).2.2 = false) : l = [] ∧ c2 = c := by
  cases h with
  | nil h => exact ⟨rfl, rfl⟩
  | cons h t => rw [h] at hn; cases hn
theorem next_no {c : Cn} (h : (cnNext c).2.2 = false) : cnNext c = (c, Gq.zero, false) := by
  unfold cnNext at h ⊢
  split
  · rfl
  · rename_i h1
    rw [if_neg h1] at h
    split
    · rfl
    · rename_i h2
      rw [if_neg h2] at h
      cases h
theorem next_close {c c1 : Cn} {r : Gq} (hn : cnNext c = (c1, r, true)) : r.close = true → r.skip = 0 := by
  unfold cnNext at hn
  split at hn
  · simp at hn
  · split at hn
    · simp at hn
    · simp only [Prod.mk.injEq, and_true] at hn
      obtain ⟨_, rfl⟩ := hn
      exact clsC _
theorem fit_zero : CnFit Cn.zero := ⟨by decide, fun _ => rfl, fun _ => rfl⟩
theorem next_zero : (cnNext Cn.zero).2.2 = false := by decide +kernel
theorem Dr.next {c c1 c2 : Cn} {r : Gq} {l : List Gq} {y : List UInt8} (hc : CnFit c) (hy : c.inp.length + y.length ≤ 70000) (hn : cnNext c = (c1, r, true)) (h : Dr (cnFeed c y).1 l c2) :
    ∃ l', l = r :: l' ∧ Dr (cnFeed c1 y).1 l' c2 ∧ CnFit c1 ∧ c1.inp.length < c.inp.length := by
  obtain ⟨h1, h2, h3, h4⟩ := next_feed hc hn hy (next_close hn)
  obtain ⟨l', e, h5⟩ := h.cons_inv h1
  exact ⟨l', e, h5, h2, h4⟩
end Go.Proofs.YtehfcboiimdkbaaGreatDoor
