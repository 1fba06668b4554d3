/- What the document says of the lines of the meta protocol (ambryref21.read) is readM. No program in sight but the definitions of the walks. -/
import Derived.Test.YtlaagebdbcmckaaGreatDoorCEdoc4
import Derived.Test.YtlaagebdbcmckaaGreatDoorCEdoc7
import Derived.Test.YtlaagebdbcmckaaGreatDoorCEdoc8
namespace Go.Proofs.YtlaagebdbcmckaaGreatDoor
set_option linter.unusedSimpArgs false
set_option linter.unusedVariables false
open Go.RowKit
set_option maxRecDepth 100000
theorem ibM (x : UInt8) : (decide (3 ≤ Lib.indexByte [73, 105, 43, 68, 100, 45] x) = [68, 100, 45].contains x) ∧ (decide (0 ≤ Lib.indexByte [73, 105, 43, 68, 100, 45] x) = [73, 105, 43, 68, 100, 45].contains x) := by
  have tab : ∀ n : _root_.Fin 256, (decide (3 ≤ Lib.indexByte [73, 105, 43, 68, 100, 45] (UInt8.ofNat n.1)) = [68, 100, 45].contains (UInt8.ofNat n.1)) ∧ (decide (0 ≤ Lib.indexByte [73, 105, 43, 68, 100, 45] (UInt8.ofNat n.1)) = [73, 105, 43, 68, 100, 45].contains (UInt8.ofNat n.1)) := by decide +kernel
  have h := tab ⟨x.toNat, x.toNat_lt⟩
  rwa [UInt8.ofNat_toNat] at h
def modeN (x : UInt8) : Option Int :=
  if x = 83 ∨ x = 115 then some 0 else if x = 69 ∨ x = 101 then some 1 else if x = 65 ∨ x = 97 then some 3 else if x = 80 ∨ x = 112 then some 4 else if x = 82 ∨ x = 114 then some 2 else none
theorem ibN (x : UInt8) : (decide (0 ≤ Lib.indexByte [83, 115, 69, 101, 82, 114, 65, 97, 80, 112] x) = (modeN x).isSome) ∧ (∀ n, modeN x = some n → (if 0 < (Lib.indexByte [83, 115, 69, 101, 82, 114, 65, 97, 80, 112] x).tdiv 2 then (Lib.indexByte [83, 115, 69, 101, 82, 114, 65, 97, 80, 112] x).tdiv 2 else 0) = n) := by
  have tab : ∀ n : _root_.Fin 256, (decide (0 ≤ Lib.indexByte [83, 115, 69, 101, 82, 114, 65, 97, 80, 112] (UInt8.ofNat n.1)) = (modeN (UInt8.ofNat n.1)).isSome) ∧ ((modeN (UInt8.ofNat n.1)).isSome = true → modeN (UInt8.ofNat n.1) = some (if 0 < (Lib.indexByte [83, 115, 69, 101, 82, 114, 65, 97, 80, 112] (UInt8.ofNat n.1)).tdiv 2 then (Lib.indexByte [83, 115, 69, 101, 82, 114, 65, 97, 80, 112] (UInt8.ofNat n.1)).tdiv 2 else 0)) := by decide +kernel
  have h := tab ⟨x.toNat, x.toNat_lt⟩
  rw [UInt8.ofNat_toNat] at h
  refine ⟨h.1, fun n hn => ?_⟩
  have := h.2 (by rw [hn]; rfl)
  rw [hn] at this
  exact (Option.some.inj this).symm
theorem mode_is (c : Cd) (s : List UInt8) : (modeD c s).2 = (modeM c s).2 ∧ ((modeM c s).2 = true → (modeD c s).1 = (modeM c s).1) := by
  match s with
  | [] => exact ⟨rfl, fun h => by cases h⟩
  | _ :: _ :: _ => exact ⟨rfl, fun h => by cases h⟩
  | [x] =>
    by_cases h3 : c.op = 3
    · obtain ⟨h1, h2⟩ := ibM x
      simp only [modeD, modeM, h3, if_true, h1, h2]
      exact ⟨trivial, fun _ => trivial⟩
    · obtain ⟨h1, h2⟩ := ibN x
      have e : modeD c [x] = (match modeN x with | some n => ({ c with mode := n }, true) | none => (c, false)) := by
        simp only [modeD, modeN, if_neg h3]
        repeat' split
        all_goals first | rfl | simp_all
      rw [e]
      simp only [modeM, if_neg h3, h1]
      cases hm : modeN x with
      | none => exact ⟨rfl, fun h => by cases h⟩
      | some n => exact ⟨rfl, fun _ => by simp only [h2 n hm]⟩
theorem sec_is (s : List UInt8) : (dsecF s).2 = (secF s).2 ∧ ((secF s).2 = true → (dsecF s).1 = (secF s).1) := by
  unfold dsecF
  by_cases h : (secF s).2 = true
  · rw [if_pos h]; exact ⟨rfl, fun _ => rfl⟩
  · rw [if_neg h]; exact ⟨by simpa using h, fun h' => absurd h' h⟩
theorem arg_is (c : Cd) (x : UInt8) (s : List UInt8) : (argD c x s).2 = (setM c x s).2 ∧ ((setM c x s).2 = true → (argD c x s).1 = (setM c x s).1) := by
  obtain ⟨s1, s2⟩ := sec_is s
  by_cases h0 : x = 73
  · subst h0
    simp [argD, setM]
    cases s <;> simp
  unfold argD setM
  rw [if_neg h0]
  by_cases h1 : x = 67
  · simp only [if_pos h1]; exact ⟨trivial, fun _ => trivial⟩
  by_cases h2 : x = 68
  · simp only [if_neg h1, if_pos h2]; exact ⟨trivial, fun _ => trivial⟩
  by_cases h3 : x = 74
  · simp only [if_neg h1, if_neg h2, if_pos h3]; exact ⟨trivial, fun _ => trivial⟩
  by_cases h4 : x = 70
  · simp only [if_neg h1, if_neg h2, if_neg h3, if_pos h4]; exact ⟨trivial, fun _ => trivial⟩
  by_cases h5 : x = 77
  · simp only [if_neg h1, if_neg h2, if_neg h3, if_neg h4, if_pos h5]; exact mode_is c s
  by_cases h6 : x = 78
  · simp only [if_neg h1, if_neg h2, if_neg h3, if_neg h4, if_neg h5, if_pos h6]; exact ⟨s1, fun h => by rw [s2 h]⟩
  by_cases h7 : x = 79
  · have h82 : ¬ x = 82 := by rw [h7]; decide
    have h84 : ¬ x = 84 := by rw [h7]; decide
    simp only [if_neg h1, if_neg h2, if_neg h3, if_neg h4, if_neg h5, if_neg h6, if_pos h7, if_neg h82, if_neg h84]
    refine ⟨?_, fun _ => trivial⟩
    cases s with
    | nil => rfl
    | cons a t =>
      have e1 : decide ((1 : Int) ≤ ((a :: t).length : Int)) = true := decide_eq_true (by simp only [List.length_cons]; omega)
      have e2 : decide (((a :: t).length : Int) ≤ 32) = decide ((a :: t).length ≤ 32) := by rw [decide_eq_decide]; omega
      rw [e1, e2]; simp
  by_cases h8 : x = 82
  · simp only [if_neg h1, if_neg h2, if_neg h3, if_neg h4, if_neg h5, if_neg h6, if_neg h7, if_pos h8]; exact ⟨s1, fun h => by rw [s2 h]⟩
  by_cases h9 : x = 84
  · simp only [if_neg h1, if_neg h2, if_neg h3, if_neg h4, if_neg h5, if_neg h6, if_neg h7, if_neg h8, if_pos h9]
    refine ⟨s1, fun h => ?_⟩
    rw [s2 h]
    by_cases ho : c.op = 2 <;> simp [ho]
  simp only [if_neg h1, if_neg h2, if_neg h3, if_neg h4, if_neg h5, if_neg h6, if_neg h7, if_neg h8, if_neg h9]
  refine ⟨?_, fun _ => ?_⟩
  · cases s <;> simp
  · simp [h0]
theorem all_is (al : List UInt8) : ∀ (l : List (List UInt8)) (c : Cd) (seen : List UInt8), (∀ x ∈ l, x ≠ []) →
    (allD al l c seen).2 = (allM al l c seen).2.1 ∧ ((allM al l c seen).2.1 = [] → (allD al l c seen).1 = (allM al l c seen).1 ∧ (allM al l c seen).2.2 = seen ++ l.map hd0)
  | [], c, seen, _ => ⟨rfl, fun _ => ⟨rfl, by simp [allM]⟩⟩
  | [] :: l, c, seen, h => absurd rfl (h [] (by simp))
  | (x :: s) :: l, c, seen, h => by
    rw [allD, allM]
    by_cases h1 : al.contains x = false
    · rw [if_pos h1, if_pos h1]; exact ⟨rfl, fun h => by cases h⟩
    rw [if_neg h1, if_neg h1]
    by_cases h2 : seen.contains x = true
    · rw [if_pos h2, if_pos h2]; exact ⟨rfl, fun h => by cases h⟩
    rw [if_neg h2, if_neg h2]
    obtain ⟨a1, a2⟩ := arg_is c x s
    by_cases h3 : (setM c x s).2 = true
    · rw [a1, if_pos h3, if_pos h3, a2 h3]
      have ih := all_is al l (setM c x s).1 (seen ++ [x]) (fun y hy => h y (by simp [hy]))
      refine ⟨ih.1, fun hz => ⟨(ih.2 hz).1, ?_⟩⟩
      rw [(ih.2 hz).2]; simp [hd0]
    · rw [a1, if_neg h3, if_neg h3]; exact ⟨rfl, fun h => by cases h⟩
def cmdD (name : List UInt8) : Cd := { Cd.zero with op := opD name, delta := if opD name = 3 then 1 else 0, recache := -1 }
theorem cmd_is {name : List UInt8} (h : (kindM name).2 ≠ []) : cmdD name = (kindM name).1 := by
  unfold cmdD opD kindM
  unfold kindM at h
  by_cases h0 : name = m_me
  · subst h0; rfl
  by_cases h1 : name = m_mg
  · subst h1; rfl
  by_cases h2 : name = m_ms
  · subst h2; rfl
  by_cases h3 : name = m_md
  · subst h3; rfl
  by_cases h4 : name = m_ma
  · subst h4; rfl
  rw [if_neg h0, if_neg h1, if_neg h2, if_neg h3, if_neg h4] at h
  exact absurd rfl h
def anyF (l : List (List UInt8)) (c : UInt8) : Bool := l.any fun f => f.head? == some c
def keyD (word : List UInt8) (l : List (List UInt8)) : List UInt8 × Bool := if anyF l 98 then refV word else (word, true)
def badD (name word : List UInt8) (l : List (List UInt8)) (n : Nat) : List UInt8 :=
  let b0 := (allD (kindM name).2 l (cmdD name) []).2
  let b1 := if b0 = [] then (if (keyD word l).2 = false ∨ keyB (keyD word l).1 = false then f_format else []) else b0
  if b1 = [] ∧ 65536 < n then f_large else b1
def restD (name word : List UInt8) (l : List (List UInt8)) (store : Bool) (n : Nat) (behind : List UInt8) : Mq × Int × Bool :=
  let skip := if store then n + 2 else 0
  if badD name word l n ≠ [] then (badM (badD name word l n) skip, 0, false)
  else if behind.length < skip then (Mq.zero, 0, true)
  else if store = true ∧ (behind.take skip).drop n ≠ [13, 10] then (badM b_chunk 0, skip, false)
  else (⟨1, [{ (allD (kindM name).2 l (cmdD name) []).1 with key := (keyD word l).1, val := behind.take n }], anyF l 113, [], 0, false, name, l, word⟩, skip, false)
theorem heads_any {l : List (List UInt8)} (h : ∀ x ∈ l, x ≠ []) (c : UInt8) : (l.map hd0).contains c = anyF l c := by
  induction l with
  | nil => rfl
  | cons x l ih =>
    have hx := h x (by simp)
    have ih := ih fun y hy => h y (by simp [hy])
    cases x with
    | nil => exact absurd rfl hx
    | cons a t =>
      simp only [List.map_cons, List.contains_cons, anyF, List.any_cons] at ih ⊢
      rw [ih]
      congr 1
      by_cases hac : a = c
      · subst hac; simp [hd0]
      · have h1 : (c == a) = false := by simpa using fun e => hac (Eq.symm e)
        have h2 : ((some a : Option UInt8) == some c) = false := by simpa using hac
        simp [hd0, h1, hac]
theorem rest_is {name word : List UInt8} {l : List (List UInt8)} (hk : (kindM name).2 ≠ []) (hl : ∀ x ∈ l, x ≠ []) (store : Bool) (n : Nat) (hn : store = false → n = 0) (behind : List UInt8) :
    restD name word l store n behind = restM name word l (if store then n + 2 else 0) behind := by
  obtain ⟨a1, a2⟩ := all_is (kindM name).2 l (kindM name).1 [] hl
  have hfl : flagsM name l = allM (kindM name).2 l (kindM name).1 [] := rfl
  rw [← hfl] at a1 a2
  have hb : badD name word l n = wrongM name word l (if store then n + 2 else 0) := by
    unfold badD wrongM
    rw [cmd_is hk, a1]
    by_cases h0 : (flagsM name l).2.1 = []
    · obtain ⟨_, a4⟩ := a2 h0
      have hkey : ((keyD word l).2 = false ∨ keyB (keyD word l).1 = false) ↔ okM (keyM name word l) = false := by
        unfold keyD keyM
        rw [a4, List.nil_append, heads_any hl]
        cases anyF l 98 with
        | false => simp [okM]
        | true =>
          simp only [if_true, refV, refDec_is]
          cases decB word with
          | none => simp [okM]
          | some k => simp [okM]
      simp only [h0, if_true, ne_eq, not_true_eq_false, if_false]
      by_cases h1 : okM (keyM name word l) = false
      · rw [if_pos (hkey.2 h1), if_pos h1, if_neg (fun h => by have := h.1; exact absurd this (by decide))]
      · rw [if_neg (fun h => h1 (hkey.1 h)), if_neg h1]
        cases store with
        | false => have := hn rfl; subst this; simp
        | true =>
          simp only [if_true, true_and]
          by_cases h2 : 65536 < n
          · rw [if_pos h2, if_pos (by omega)]
          · rw [if_neg h2, if_neg (by omega)]
    · simp only [h0, if_false, ne_eq, not_false_eq_true, if_true, false_and]
  unfold restD restM
  simp only [hb]
  by_cases h1 : wrongM name word l (if store then n + 2 else 0) ≠ []
  · rw [if_pos h1, if_pos h1]
  rw [if_neg h1, if_neg h1]
  have h0 : (flagsM name l).2.1 = [] := by
    have := Classical.not_not.1 h1
    unfold wrongM at this
    by_cases h : (flagsM name l).2.1 ≠ []
    · rw [if_pos h] at this; exact this
    · exact Classical.not_not.1 h
  have hok : okM (keyM name word l) = true := by
    have := Classical.not_not.1 h1
    unfold wrongM at this
    rw [if_neg (fun h => h h0)] at this
    by_cases h : okM (keyM name word l) = false
    · rw [if_pos h] at this; exact absurd this (by decide)
    · simpa using h
  obtain ⟨a3, a4⟩ := a2 h0
  have hkey : (keyD word l).1 = (keyM name word l).getD [] := by
    unfold keyD keyM
    rw [a4, List.nil_append, heads_any hl]
    unfold keyM at hok
    rw [a4, List.nil_append, heads_any hl] at hok
    cases hany : anyF l 98 with
    | false => simp
    | true =>
      rw [hany] at hok
      simp only [if_true, refV, refDec_is] at hok ⊢
      cases hd : decB word with
      | none => rw [hd] at hok; cases hok
      | some k => rfl
  have hq : (flagsM name l).2.2.contains 113 = anyF l 113 := by rw [a4, List.nil_append, heads_any hl]
  cases store with
  | false =>
    have := hn rfl; subst this
    simp only [Bool.false_eq_true, if_false, Nat.not_lt_zero, false_and, List.take_zero, doneM, cmd_is hk, a3, hkey, hq]
    try rfl
  | true =>
    simp only [if_true, true_and, Nat.add_sub_cancel, doneM, cmd_is hk, a3, hkey, hq]
    by_cases h2 : behind.length < n + 2
    · rw [if_pos h2, if_pos h2]; try rfl
    · rw [if_neg h2, if_neg h2]
      simp
end Go.Proofs.YtlaagebdbcmckaaGreatDoor
