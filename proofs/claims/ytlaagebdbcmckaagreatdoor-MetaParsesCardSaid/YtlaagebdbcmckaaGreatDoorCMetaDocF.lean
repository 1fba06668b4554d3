/- What the document says of the bytes that a request begins with (ambryref20.Front) is what mParse reads. No program in sight but the definitions of the walks. -/
import Derived.Test.YtlaagebdbcmckaaGreatDoorCEdoc2
import Derived.Test.YtlaagebdbcmckaaGreatDoorBC
namespace Go.Proofs.YtlaagebdbcmckaaGreatDoor
set_option linter.unusedSimpArgs false
set_option linter.unusedVariables false
open Go.RowKit
theorem takeW_take (p : UInt8 → Bool) : ∀ (b : List UInt8) (k : Nat), (b.take k).takeWhile p = (b.takeWhile p).take k
  | [], k => by simp
  | c :: b, 0 => by simp
  | c :: b, k + 1 => by
    rw [List.take_succ_cons, List.takeWhile_cons, List.takeWhile_cons]
    cases p c with
    | true => simp [takeW_take p b k]
    | false => simp
theorem takeW_len (p : UInt8 → Bool) (b : List UInt8) : (b.takeWhile p).length ≤ b.length := (List.takeWhile_sublist p).length_le
theorem line_take (b : List UInt8) (k : Nat) : lineV (b.take k) = if 0 < (lineV b).2 ∧ (lineV b).2 ≤ k then lineV b else ([], 0) := by
  obtain ⟨l, hl⟩ : ∃ l, b.takeWhile (· != 10) = l := ⟨_, rfl⟩
  have hle : l.length ≤ b.length := by rw [← hl]; exact takeW_len _ b
  have e : lineV b = if l.length < b.length then ((if l.getLast? = some 13 then l.dropLast else l), l.length + 1) else ([], 0) := by unfold lineV; simp only [hl]
  have e2 : lineV (b.take k) = if (l.take k).length < (b.take k).length then ((if (l.take k).getLast? = some 13 then (l.take k).dropLast else l.take k), (l.take k).length + 1) else ([], 0) := by
    unfold lineV; simp only [takeW_take, hl]
  rw [e2, e]
  by_cases h1 : l.length < b.length
  · rw [if_pos h1]
    by_cases h2 : l.length + 1 ≤ k
    · rw [if_pos (show 0 < l.length + 1 ∧ l.length + 1 ≤ k from ⟨Nat.succ_pos _, h2⟩), List.take_of_length_le (by omega : l.length ≤ k), if_pos (show l.length < (b.take k).length by rw [List.length_take]; omega)]
    · rw [if_neg (show ¬ (0 < l.length + 1 ∧ l.length + 1 ≤ k) from fun h => h2 h.2), if_neg (show ¬ (l.take k).length < (b.take k).length by rw [List.length_take, List.length_take]; omega)]
  · rw [if_neg h1, if_neg (show ¬ (l.take k).length < (b.take k).length by rw [List.length_take, List.length_take]; omega)]
    simp
def docP (b : List UInt8) : Mq × Int :=
  if (frontF b).2.2.2 then lineM (frontF b).2.1 (b.drop (frontF b).2.1) (wordsF ((frontF b).1.length + 1) (frontF b).1) else ((frontF b).2.2.1, ((frontF b).2.1 : Int))
theorem doc_is (b : List UInt8) : docP b = mParse b := by
  unfold docP mParse frontF
  simp only [line_take]
  by_cases h : 0 < (lineV b).2 ∧ (lineV b).2 ≤ 2048
  · simp only [if_pos h, if_true]
    rw [if_neg (by omega)]
  · simp only [if_neg h, if_true]
    by_cases h2 : b.length < 2048
    · simp only [if_pos h2, Bool.false_eq_true, if_false]; rfl
    · simp only [if_neg h2, Bool.false_eq_true, if_false]; rfl
end Go.Proofs.YtlaagebdbcmckaaGreatDoor
