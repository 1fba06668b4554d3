/- What the document says of replies (ambryref21.Reply) is mReply. No program in sight. -/
import Derived.Test.YtlaagebdbcmckaaGreatDoorBC
namespace Go.Proofs.YtlaagebdbcmckaaGreatDoor
set_option linter.unusedSimpArgs false
set_option linter.unusedVariables false
open Go.Lib

def toldD (r : Mq) (a : An) (now : Int) (much : Bool) : List UInt8 := (r.flags.flatMap (flagT r a now much) ++ marksT a much).flatMap (fun w => 32 :: w) ++ crlf
theorem join_flat (ws : List (List UInt8)) (a : List UInt8) : Lib.join (a :: ws) [32] = a ++ ws.flatMap (fun w => 32 :: w) := by rw [Lib.join_cons, Lib.joinTail, List.flatMap_def]; rfl
theorem lineT_flat (a : List UInt8) (ws : List (List UInt8)) : lineT (a :: ws) = a ++ ws.flatMap (fun w => 32 :: w) ++ crlf := by unfold lineT; rw [join_flat]
theorem told_1 (r : Mq) (a : An) (now : Int) (much : Bool) (x : List UInt8) : toldT r a now much [x] = x ++ toldD r a now much := by
  unfold toldT toldD
  rw [List.append_assoc, List.cons_append, List.nil_append, lineT_flat, List.append_assoc]
theorem told_2 (r : Mq) (a : An) (now : Int) (much : Bool) (x y : List UInt8) : toldT r a now much [x, y] = x ++ 32 :: y ++ toldD r a now much := by
  unfold toldT toldD
  rw [List.append_assoc, List.cons_append, List.cons_append, List.nil_append, lineT_flat, List.flatMap_cons]
  simp
def fineD (r : Mq) (a : An) (now : Int) : List UInt8 :=
  if (r.name = m_mg ∨ r.name = m_ma) ∧ hasF r 118 = true then [86, 65, 32] ++ sizeT a.it ++ toldD r a now true ++ a.it.val ++ crlf
  else if r.quiet = true ∧ r.name ≠ m_mg then []
  else [72, 68] ++ toldD r a now true
def missD (r : Mq) (a : An) (now : Int) : List UInt8 :=
  if r.name = m_mg then (if r.quiet then [] else [69, 78] ++ crlf)
  else if r.name = m_me then [69, 78] ++ crlf
  else if r.name = m_ms then [78, 70] ++ toldD r a now false
  else if r.name = m_md ∨ r.name = m_ma then (if r.quiet then [] else [78, 70] ++ toldD r a now false)
  else [69, 82, 82, 79, 82] ++ crlf
def dReply (r : Mq) (a : An) (now : Int) : List UInt8 :=
  if r.kind = 7 then [77, 78] ++ crlf
  else if r.kind ≠ 1 then []
  else if a.st = 11 then [83, 69, 82, 86, 69, 82, 95, 69, 82, 82, 79, 82, 32, 111, 98, 106, 101, 99, 116, 32, 116, 111, 111, 32, 108, 97, 114, 103, 101, 32, 102, 111, 114, 32, 99, 97, 99, 104, 101] ++ crlf
  else if a.st = 12 then [83, 69, 82, 86, 69, 82, 95, 69, 82, 82, 79, 82, 32, 111, 117, 116, 32, 111, 102, 32, 109, 101, 109, 111, 114, 121, 32, 115, 116, 111, 114, 105, 110, 103, 32, 111, 98, 106, 101, 99, 116] ++ crlf
  else if a.st = 7 then [67, 76, 73, 69, 78, 84, 95, 69, 82, 82, 79, 82, 32, 99, 97, 110, 110, 111, 116, 32, 105, 110, 99, 114, 101, 109, 101, 110, 116, 32, 111, 114, 32, 100, 101, 99, 114, 101, 109, 101, 110, 116, 32, 110, 111, 110, 45, 110, 117, 109, 101, 114, 105, 99, 32, 118, 97, 108, 117, 101] ++ crlf
  else if a.st = 5 then missD r a now
  else if r.name = m_me ∧ a.st = 1 then [77, 69, 32] ++ r.word ++ [32, 101, 120, 112, 61] ++ leftT a.it now ++ [32, 99, 97, 115, 61] ++ decDigits a.it.cas.toNat ++ [32, 115, 105, 122, 101, 61] ++ sizeT a.it ++ crlf
  else if (r.name = m_mg ∧ a.st = 1) ∨ (r.name = m_ms ∧ (a.st = 2 ∨ a.st = 9)) ∨ (r.name = m_md ∧ (a.st = 2 ∨ a.st = 9)) ∨ (r.name = m_ma ∧ a.st = 6) then fineD r a now
  else if r.name = m_ms ∧ a.st = 3 then [78, 83] ++ toldD r a now false
  else if a.st = 4 ∧ (r.name = m_ms ∨ r.name = m_md ∨ r.name = m_ma) then [69, 88] ++ toldD r a now false
  else [69, 82, 82, 79, 82] ++ crlf
theorem dReply_is (r : Mq) (a : An) (now : Int) : dReply r a now = mReply r a now := by
  obtain ⟨kind, cmds, quiet, reply, skip, close, name, flags, word⟩ := r
  obtain ⟨st, it, num, w, x, z⟩ := a
  unfold dReply mReply
  by_cases k7 : kind = 7
  · simp only [k7, if_true, lineT_flat]; rfl
  simp only [k7, if_false]
  by_cases k1' : kind ≠ 1
  · simp only [k1', ne_eq, not_false_eq_true, if_true]
  have k1 : kind = 1 := Classical.not_not.1 k1'
  simp only [k1, ne_eq, not_true_eq_false, if_false]
  by_cases s11 : st = 11
  · simp only [s11, if_true]
  by_cases s12 : st = 12
  · simp only [s12, if_true]
  by_cases s7 : st = 7
  · simp only [s7, if_true]
  simp only [s11, s12, s7, if_false]
  have d1 : ¬ m_mg = m_me := by decide
  have d2 : ¬ m_ms = m_me := by decide
  have d3 : ¬ m_md = m_me := by decide
  have d4 : ¬ m_ma = m_me := by decide
  have d5 : ¬ m_ms = m_mg := by decide
  have d6 : ¬ m_md = m_mg := by decide
  have d7 : ¬ m_ma = m_mg := by decide
  have d8 : ¬ m_md = m_ms := by decide
  have d9 : ¬ m_ma = m_ms := by decide
  have da : ¬ m_ma = m_md := by decide
  have db : ¬ m_me = m_mg := by decide
  have dc : ¬ m_me = m_ms := by decide
  have dd : ¬ m_me = m_md := by decide
  have de : ¬ m_me = m_ma := by decide
  have df : ¬ m_mg = m_ms := by decide
  have dg : ¬ m_mg = m_md := by decide
  have dh : ¬ m_mg = m_ma := by decide
  have di : ¬ m_ms = m_md := by decide
  have dj : ¬ m_ms = m_ma := by decide
  have dk : ¬ m_md = m_ma := by decide
  by_cases e1 : st = 1
  · subst e1
    by_cases n1 : name = m_me
    · subst n1; simp [*, lineT_flat, valueT, told_1, told_2, loudT, fineD, missD]
    by_cases n2 : name = m_mg
    · subst n2; simp [*, lineT_flat, valueT, told_1, told_2, loudT, fineD, missD]
    by_cases n3 : name = m_ms
    · subst n3; simp [*, lineT_flat, valueT, told_1, told_2, loudT, fineD, missD]
    by_cases n4 : name = m_md
    · subst n4; simp [*, lineT_flat, valueT, told_1, told_2, loudT, fineD, missD]
    by_cases n5 : name = m_ma
    · subst n5; simp [*, lineT_flat, valueT, told_1, told_2, loudT, fineD, missD]
    simp [*]
  by_cases n1 : name = m_me
  · subst n1
    by_cases e5 : st = 5
    · simp [*, lineT_flat, missD]
    · simp [*]
  by_cases n2 : name = m_mg
  · subst n2
    by_cases e5 : st = 5
    · cases quiet <;> simp [*, lineT_flat, missD, loudT]
    · simp [*]
  by_cases n3 : name = m_ms
  · subst n3
    by_cases e5 : st = 5
    · simp [*, told_1, missD]
    by_cases e2 : st = 2 ∨ st = 9
    · cases quiet <;> simp [*, told_1, fineD, loudT]
    · by_cases e3 : st = 3
      · simp [*, told_1]
      · by_cases e4 : st = 4 <;> simp [*, told_1]
  by_cases n4 : name = m_md
  · subst n4
    by_cases e5 : st = 5
    · cases quiet <;> simp [*, told_1, missD, loudT]
    by_cases e2 : st = 2 ∨ st = 9
    · cases quiet <;> simp [*, told_1, fineD, loudT]
    · by_cases e4 : st = 4 <;> simp [*, told_1]
  by_cases n5 : name = m_ma
  · subst n5
    by_cases e5 : st = 5
    · cases quiet <;> simp [*, told_1, missD, loudT]
    by_cases e6 : st = 6
    · by_cases hv : hasF ⟨1, cmds, quiet, reply, skip, close, m_ma, flags, word⟩ 118 = true
      · simp [*, told_1, told_2, fineD, loudT, valueT]
      · cases quiet <;> simp [*, told_1, told_2, fineD, loudT, valueT]
    · by_cases e4 : st = 4 <;> simp [*, told_1]
  by_cases e5 : st = 5 <;> simp [*, missD]
end Go.Proofs.YtlaagebdbcmckaaGreatDoor
