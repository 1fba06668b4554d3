/- The lines of MetaKeys read, and their replies. No program in sight. -/
import Derived.Test.YtlaagebdbcmckaaGreatDoorCMetaNumL
import Derived.Test.YtlaagebdbcmckaaGreatDoorBC
namespace Go.Proofs.YtlaagebdbcmckaaGreatDoor
set_option linter.unusedSimpArgs false
set_option linter.unusedVariables false
open Go.Lib

/-- the names -/
def mkName : Nat → List UInt8
  | 0 => m_mg
  | 1 => m_ms
  | 2 => m_md
  | _ => m_ma
def mkSize (i : Nat) (val : List UInt8) : List (List UInt8) := if i = 1 then [decDigits val.length] else []
def mkData (i : Nat) (val : List UInt8) : List UInt8 := if i = 1 then val ++ [13, 10] else []
def mkReq (i : Nat) (key val word : List UInt8) (l : List (List UInt8)) : Mq := ⟨1, [{ (kindM (mkName i)).1 with key := key, val := if i = 1 then val else [] }], false, [], 0, false, mkName i, l, word⟩
def mkLine (i : Nat) (val word : List UInt8) (l : List (List UInt8)) : List UInt8 := joinB (mkName i) (word :: (mkSize i val ++ l)) ++ 13 :: 10 :: mkData i val
theorem mk_line {key : List UInt8} (h : keyB key = true) : LineWord (encB key) := by
  have hl := encB_len key
  simp only [keyB, Bool.and_eq_true, Bool.not_eq_true'] at h
  refine lw_lit (fun e => ?_) (fun c hc => encB_mem hc)
  rw [e] at hl
  cases key with
  | nil => simp at h
  | cons c t => simp only [List.length_cons, List.length_nil] at hl; omega
theorem key_len {key : List UInt8} (h : keyB key = true) : key.length ≤ 250 := by
  simp only [keyB, Bool.and_eq_true, decide_eq_true_eq] at h
  exact h.2
theorem mk_rest {i : Nat} {key val word : List UInt8} {l : List (List UInt8)} {seen : List UInt8} (hf : flagsM (mkName i) l = ((kindM (mkName i)).1, [], seen)) (hk : keyM (mkName i) word l = some key) (hkey : keyB key = true) (hq : seen.contains 113 = false) (hv : val.length ≤ 65536) :
    restM (mkName i) word l (if i = 1 then val.length + 2 else 0) (mkData i val) = (mkReq i key val word l, ((if i = 1 then val.length + 2 else 0 : Nat) : Int), false) := by
  have hw : wrongM (mkName i) word l (if i = 1 then val.length + 2 else 0) = [] := by
    unfold wrongM
    rw [hk, hf, if_neg (by simp), if_neg (by simp [okM, hkey]), if_neg (by split <;> omega)]
  have hn : ¬ wrongM (mkName i) word l (if i = 1 then val.length + 2 else 0) ≠ [] := fun h => h hw
  have hd : doneM (mkName i) word l (if 0 < (if i = 1 then val.length + 2 else 0) then (mkData i val).take ((if i = 1 then val.length + 2 else 0) - 2) else []) = mkReq i key val word l := by
    unfold doneM mkReq
    rw [hk, hf]
    simp only [hq, Option.getD_some]
    by_cases h1 : i = 1
    · simp [h1, mkData]
    · simp [h1]
  unfold restM
  rw [if_neg hn, hd]
  by_cases h1 : i = 1
  · subst h1
    simp [mkData, Nat.add_sub_cancel, List.take_of_length_le]
  · simp [h1, mkData]
theorem mk_read {i : Nat} (hi : i < 4) {key val word : List UInt8} {l : List (List UInt8)} {seen : List UInt8} (hf : flagsM (mkName i) l = ((kindM (mkName i)).1, [], seen)) (hk : keyM (mkName i) word l = some key) (hkey : keyB key = true) (hq : seen.contains 113 = false) (hv : val.length ≤ 65536) :
    ∃ u : Nat, readM (mkName i) (word :: (mkSize i val ++ l)) (mkData i val) = (mkReq i key val word l, (u : Int), false) := by
  · have h := mk_rest hf hk hkey hq hv
    refine ⟨if i = 1 then val.length + 2 else 0, ?_⟩
    by_cases h1 : i = 1
    · subst h1
      simp only [if_true] at h
      have hn := numF_dec (u := val.length) (by omega)
      simp only [readM, mkSize, if_true, List.cons_append, List.nil_append, hn, show mkName 1 = m_ms from rfl]
      rw [if_pos (by simp; omega)]
      exact h
    · have hne : ¬ mkName i = m_ms := by
        have : i = 0 ∨ i = 2 ∨ i = 3 := by omega
        rcases this with rfl | rfl | rfl <;> decide
      simp only [if_neg h1] at h
      simp only [readM, mkSize, if_neg h1, if_neg hne, List.nil_append]
      exact h
theorem mk_mparse {i : Nat} (hi : i < 4) {key val word : List UInt8} {l : List (List UInt8)} {seen : List UInt8} (hf : flagsM (mkName i) l = ((kindM (mkName i)).1, [], seen)) (hk : keyM (mkName i) word l = some key) (hkey : keyB key = true) (hq : seen.contains 113 = false) (hv : val.length ≤ 65536) (hwl : LineWord word) (hl : ∀ k ∈ l, LineWord k)
    (hlen : (joinB (mkName i) (word :: (mkSize i val ++ l))).length + 2 ≤ 2048) : ∃ n : Nat, 0 < n ∧ mParse (mkLine i val word l) = (mkReq i key val word l, (n : Int)) := by
  have hn : LineWord (mkName i) := by
    have : i = 0 ∨ i = 1 ∨ i = 2 ∨ i = 3 := by omega
    rcases this with rfl | rfl | rfl | rfl <;> exact lw_lit (by decide) (by decide)
  have hne : (kindM (mkName i)).2 ≠ [] := by
    have : i = 0 ∨ i = 1 ∨ i = 2 ∨ i = 3 := by omega
    rcases this with rfl | rfl | rfl | rfl <;> decide
  have hw : ∀ k ∈ word :: (mkSize i val ++ l), LineWord k := by
    intro k hk
    rcases List.mem_cons.1 hk with rfl | hk
    · exact hwl
    rcases List.mem_append.1 hk with hk | hk
    · unfold mkSize at hk
      split at hk
      · rw [List.mem_singleton.1 hk]; exact dec_line _
      · cases hk
    · exact hl k hk
  obtain ⟨u, hu⟩ := mk_read hi hf hk hkey hq hv
  refine ⟨(joinB (mkName i) (word :: (mkSize i val ++ l))).length + 2 + u, by omega, ?_⟩
  unfold mkLine
  rw [m_words' hn hw hlen, lineM_read hne hu]
  simp
theorem mk_len (i : Nat) (val word : List UInt8) (l : List (List UInt8)) (hv : val.length ≤ 65536) (hw : word.length ≤ 340) (hl : l = [[107]] ∨ l = [[98], [107]]) : (joinB (mkName i) (word :: (mkSize i val ++ l))).length + 2 ≤ 2048 := by
  have hd := dec_len_le val.length (by omega)
  have hn : (mkName i).length = 2 := by unfold mkName; split <;> rfl
  unfold mkSize
  by_cases h1 : i = 1
  · rcases hl with rfl | rfl <;> simp [joinB, h1, mkName, m_ms] <;> omega
  · rcases hl with rfl | rfl <;> simp [joinB, h1, hn] <;> omega
theorem mk_plain {i : Nat} (hi : i < 4) {key val : List UInt8} (hkey : keyB key = true) (hv : val.length ≤ 65536) : ∃ n : Nat, 0 < n ∧ mParse (mkLine i val key [[107]]) = (mkReq i key val key [[107]], (n : Int)) := by
  have hs : i = 0 ∨ i = 1 ∨ i = 2 ∨ i = 3 := by omega
  have hf : flagsM (mkName i) [[107]] = ((kindM (mkName i)).1, [], [107]) := by
    rcases hs with rfl | rfl | rfl | rfl <;> rfl
  have hk := key_len hkey
  exact mk_mparse hi hf (by unfold keyM; rw [hf]; rfl) hkey rfl hv (key_word hkey) (by intro k hk; rw [List.mem_singleton.1 hk]; exact lw_lit (by decide) (by decide)) (mk_len i val key _ hv (by omega) (Or.inl rfl))
theorem mk_letters {i : Nat} (hi : i < 4) {key val : List UInt8} (hkey : keyB key = true) (hv : val.length ≤ 65536) : ∃ n : Nat, 0 < n ∧ mParse (mkLine i val (encB key) [[98], [107]]) = (mkReq i key val (encB key) [[98], [107]], (n : Int)) := by
  have hs : i = 0 ∨ i = 1 ∨ i = 2 ∨ i = 3 := by omega
  have hf : flagsM (mkName i) [[98], [107]] = ((kindM (mkName i)).1, [], [98, 107]) := by
    rcases hs with rfl | rfl | rfl | rfl <;> rfl
  have hk := key_len hkey
  have hl := encB_len key
  refine mk_mparse hi hf (by unfold keyM; rw [hf]; exact dec_enc key) hkey rfl hv (mk_line hkey) ?_ (mk_len i val _ _ hv (by omega) (Or.inr rfl))
  intro k hk
  simp only [List.mem_cons, List.not_mem_nil, or_false] at hk
  rcases hk with rfl | rfl <;> exact lw_lit (by decide) (by decide)
def mkWant (i : Nat) (word : List UInt8) (letters : Bool) : List UInt8 := (if i = 0 then [72, 68] else [69, 88]) ++ (if letters then [32, 98] else []) ++ [32, 107] ++ word ++ [13, 10]
theorem mk_told {i : Nat} (hi : i < 4) (key val word : List UInt8) (letters : Bool) : mReply (mkReq i key val word (if letters then [[98], [107]] else [[107]])) (toldF (if i = 0 then 1 else 4)) 5 = mkWant i word letters := by
  have hs : i = 0 ∨ i = 1 ∨ i = 2 ∨ i = 3 := by omega
  rcases hs with rfl | rfl | rfl | rfl <;> cases letters <;> simp [mReply, mkReq, mkName, toldF, valueT, hasF, toldT, lineT, flagT, marksT, Lib.join, crlf, mkWant, m_me, m_mg, m_ms, m_md, m_ma]
end Go.Proofs.YtlaagebdbcmckaaGreatDoor
