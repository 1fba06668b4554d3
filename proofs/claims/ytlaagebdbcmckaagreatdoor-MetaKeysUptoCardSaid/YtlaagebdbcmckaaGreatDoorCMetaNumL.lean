/- The lines of MetaNumbers, read. No program in sight. -/
import Derived.Test.YtlaagebdbcmckaaGreatDoorBC
import Derived.Test.YtlaagebdbcmckaaGreatDoorCTextNumLaw
import Derived.Test.YtlaagebdbcmckaaGreatDoorCTnumL
namespace Go.Proofs.YtlaagebdbcmckaaGreatDoor
set_option linter.unusedSimpArgs false
set_option linter.unusedVariables false
open Go.Lib

/-- a line of such words is read, ended by a return too -/
theorem m_words' {name : List UInt8} {ks : List (List UInt8)} (h : LineWord name) (hk : ∀ k ∈ ks, LineWord k) (hl : (joinB name ks).length + 2 ≤ 2048) (r : List UInt8) : mParse (joinB name ks ++ 13 :: 10 :: r) = lineM ((joinB name ks).length + 2) r (name :: ks) := by
  have et : (joinB name ks ++ 13 :: 10 :: r).take 2048 = joinB name ks ++ 13 :: 10 :: r.take (2046 - (joinB name ks).length) := by
    rw [List.take_append, List.take_of_length_le (by omega)]
    obtain ⟨d, hd⟩ : ∃ d, 2048 - (joinB name ks).length = d + 2 := ⟨2046 - (joinB name ks).length, by omega⟩
    rw [hd, List.take_succ_cons, List.take_succ_cons, show 2046 - (joinB name ks).length = d by omega]
  unfold mParse
  simp only [et, lineV_words' h hk]
  rw [if_neg (Nat.succ_ne_zero _), joinB_words ks name _ h hk (by have := joinB_len ks name h hk; omega)]
  have ed : (joinB name ks ++ 13 :: 10 :: r).drop ((joinB name ks).length + 2) = r := by
    rw [List.drop_append]; simp
  rw [ed]
theorem m_words {name : List UInt8} {ks : List (List UInt8)} (h : LineWord name) (hk : ∀ k ∈ ks, LineWord k) (hl : (joinB name ks).length + 1 ≤ 2048) (r : List UInt8) : mParse (joinB name ks ++ 10 :: r) = lineM ((joinB name ks).length + 1) r (name :: ks) := by
  have et : (joinB name ks ++ 10 :: r).take 2048 = joinB name ks ++ 10 :: r.take (2047 - (joinB name ks).length) := by
    rw [List.take_append, List.take_of_length_le (by omega)]
    obtain ⟨d, hd⟩ : ∃ d, 2048 - (joinB name ks).length = d + 1 := ⟨2047 - (joinB name ks).length, by omega⟩
    rw [hd, List.take_succ_cons, show 2047 - (joinB name ks).length = d by omega]
  unfold mParse
  simp only [et, lineV_words h hk]
  rw [if_neg (Nat.succ_ne_zero _), joinB_words ks name _ h hk (by have := joinB_len ks name h hk; omega)]
  have ed : (joinB name ks ++ 10 :: r).drop ((joinB name ks).length + 1) = r := by
    rw [List.drop_append]; simp
  rw [ed]
/-- a letter ahead of a word -/
theorem cons_line {c : UInt8} {k : List UInt8} (h0 : c ≠ 32) (h1 : c ≠ 10) (h2 : c ≠ 13) (h : LineWord k) : LineWord (c :: k) := by
  refine ⟨⟨by simp, fun x hx => ?_⟩, fun x hx => ?_, ?_⟩
  · rcases List.mem_cons.1 hx with rfl | hx
    · exact h0
    · exact h.word.2 x hx
  · rcases List.mem_cons.1 hx with rfl | hx
    · exact h1
    · exact h.nl x hx
  · cases k with
    | nil => exact absurd rfl h.word.1
    | cons y t => rw [List.getLast?_cons_cons]; exact h.cr
theorem numF_dec {u : Nat} (h : u < 18446744073709551616) : numF (decDigits u) = ((u : Int), true) := by
  unfold numF; rw [parseV_dec u h]; rfl
theorem secF_text {n : Int} (h0 : -1099511627776 ≤ n) (h1 : n ≤ 1099511627776) : secF (secText n) = (n, true) := sec_val h0 h1
theorem lineM_read {n : Nat} {behind name : List UInt8} {w : List (List UInt8)} {r : Mq} {u : Int} (hk : (kindM name).2 ≠ []) (h : readM name w behind = (r, u, false)) : lineM n behind (name :: w) = (r, n + u) := by
  simp only [lineM, if_pos hk, h, Bool.false_eq_true, if_false]
theorem allM_step {allowed : List UInt8} {x : UInt8} {s : List UInt8} {l : List (List UInt8)} {c : Cd} {seen : List UInt8} (h1 : allowed.contains x = true) (h2 : seen.contains x = false) (h3 : (setM c x s).2 = true) : allM allowed ((x :: s) :: l) c seen = allM allowed l (setM c x s).1 (seen ++ [x]) := by
  rw [allM, if_neg (by rw [h1]; simp), if_neg (by rw [h2]; simp), if_pos h3]
section
variable {cas delta first fl : Nat} {sec more : Int} (hc : cas < 18446744073709551616) (hd : delta < 18446744073709551616) (hf : first < 18446744073709551616) (hl : fl < 4294967296) (h0 : -1099511627776 ≤ sec) (h1 : sec ≤ 1099511627776) (m0 : -1099511627776 ≤ more) (m1 : more ≤ 1099511627776)
def mnW1 (cas fl : Nat) (sec : Int) : List (List UInt8) := [[107], [48], 67 :: decDigits cas, 70 :: decDigits fl, 84 :: secText sec, [73], [77, 82]]
def mnW2 (cas delta first : Nat) (sec more : Int) : List (List UInt8) := [[107], 67 :: decDigits cas, 68 :: decDigits delta, 74 :: decDigits first, 78 :: secText sec, 84 :: secText more, [77, 45]]
def mnW3 (sec more : Int) : List (List UInt8) := [[107], 78 :: secText sec, 82 :: secText more, 84 :: secText sec, [113]]
include hc hl h0 h1 in
theorem mn_all1 : allM (kindM m_ms).2 ((mnW1 cas fl sec).drop 2) (kindM m_ms).1 [] = ({ Cd.zero with op := 2, mode := 2, flags := fl, exp := sec, cas := cas, hasCas := true, recache := -1, inval := true }, [], [67, 70, 84, 73, 77]) := by
  have w : IntKind.u32.wrap (fl : Int) = fl := by rw [IntKind.wrap_u32]; omega
  have e : (kindM m_ms) = (cmd0 2 0, [98, 99, 107, 113, 73, 67, 70, 77, 79, 84]) := rfl
  rw [e]
  simp only [mnW1, List.drop_succ_cons, List.drop_zero]
  rw [allM_step (by decide) (by decide) (by simp [setM, numF_dec hc]), allM_step (by decide) (by decide) (by simp [setM, numF_dec (show fl < 18446744073709551616 by omega)]; omega), allM_step (by decide) (by decide) (by simp [setM, secF_text h0 h1]), allM_step (by decide) (by decide) (by simp [setM]), allM_step (by decide) (by decide) (by simp [setM, numF_dec hc, secF_text h0 h1, cmd0, modeM, Cd.zero, indexByte])]
  simp [allM, setM, numF_dec hc, numF_dec (show fl < 18446744073709551616 by omega), secF_text h0 h1, cmd0, modeM, Cd.zero, indexByte, w]
include hc hd hf h0 h1 m0 m1 in
theorem mn_all2 : allM (kindM m_ma).2 ((mnW2 cas delta first sec more).drop 1) (kindM m_ma).1 [] = ({ Cd.zero with op := 3, exp := more, hasExp := true, cas := cas, hasCas := true, delta := delta, init := first, down := true, viv := true, vive := sec, recache := -1 }, [], [67, 68, 74, 78, 84, 77]) := by
  have e : (kindM m_ma) = (cmd0 3 1, [98, 99, 107, 113, 116, 118, 67, 68, 74, 77, 78, 79, 84]) := rfl
  rw [e]
  simp only [mnW2, List.drop_succ_cons, List.drop_zero]
  rw [allM_step (by decide) (by decide) (by simp [setM, numF_dec hc]), allM_step (by decide) (by decide) (by simp [setM, numF_dec hd]), allM_step (by decide) (by decide) (by simp [setM, numF_dec hf]), allM_step (by decide) (by decide) (by simp [setM, secF_text h0 h1]), allM_step (by decide) (by decide) (by simp [setM, secF_text m0 m1]), allM_step (by decide) (by decide) (by simp [setM, numF_dec hc, numF_dec hd, numF_dec hf, secF_text h0 h1, secF_text m0 m1, cmd0, modeM, Cd.zero, indexByte])]
  simp [allM, setM, numF_dec hc, numF_dec hd, numF_dec hf, secF_text h0 h1, secF_text m0 m1, cmd0, modeM, Cd.zero, indexByte]
include h0 h1 m0 m1 in
theorem mn_all3 : allM (kindM m_mg).2 ((mnW3 sec more).drop 1) (kindM m_mg).1 [] = ({ Cd.zero with op := 1, exp := sec, hasExp := true, viv := true, vive := sec, recache := more }, [], [78, 82, 84, 113]) := by
  have e : (kindM m_mg) = (cmd0 1 0, [98, 99, 102, 107, 113, 115, 116, 118, 79, 78, 82, 84]) := rfl
  rw [e]
  simp only [mnW3, List.drop_succ_cons, List.drop_zero]
  rw [allM_step (by decide) (by decide) (by simp [setM, secF_text h0 h1]), allM_step (by decide) (by decide) (by simp [setM, secF_text m0 m1]), allM_step (by decide) (by decide) (by simp [setM, secF_text h0 h1]), allM_step (by decide) (by decide) (by simp [setM])]
  simp [allM, setM, secF_text h0 h1, secF_text m0 m1, cmd0, Cd.zero]
theorem lw_lit {l : List UInt8} (h : l ≠ []) (h1 : ∀ c ∈ l, c ≠ 32 ∧ c ≠ 10 ∧ c ≠ 13) : LineWord l :=
  ⟨⟨h, fun c hc => (h1 c hc).1⟩, fun c hc => (h1 c hc).2.1, fun e => (h1 13 (List.mem_of_getLast? e)).2.2 rfl⟩
theorem mnW1_line (cas fl : Nat) (sec : Int) : ∀ k ∈ mnW1 cas fl sec, LineWord k := by
  intro k hk
  simp only [mnW1, List.mem_cons, List.not_mem_nil, or_false] at hk
  rcases hk with rfl | rfl | rfl | rfl | rfl | rfl | rfl
  · exact lw_lit (by decide) (by decide)
  · exact lw_lit (by decide) (by decide)
  · exact cons_line (by decide) (by decide) (by decide) (dec_line _)
  · exact cons_line (by decide) (by decide) (by decide) (dec_line _)
  · exact cons_line (by decide) (by decide) (by decide) (sec_line _)
  · exact lw_lit (by decide) (by decide)
  · exact lw_lit (by decide) (by decide)
theorem mnW2_line (cas delta first : Nat) (sec more : Int) : ∀ k ∈ mnW2 cas delta first sec more, LineWord k := by
  intro k hk
  simp only [mnW2, List.mem_cons, List.not_mem_nil, or_false] at hk
  rcases hk with rfl | rfl | rfl | rfl | rfl | rfl | rfl
  · exact lw_lit (by decide) (by decide)
  · exact cons_line (by decide) (by decide) (by decide) (dec_line _)
  · exact cons_line (by decide) (by decide) (by decide) (dec_line _)
  · exact cons_line (by decide) (by decide) (by decide) (dec_line _)
  · exact cons_line (by decide) (by decide) (by decide) (sec_line _)
  · exact cons_line (by decide) (by decide) (by decide) (sec_line _)
  · exact lw_lit (by decide) (by decide)
theorem mnW3_line (sec more : Int) : ∀ k ∈ mnW3 sec more, LineWord k := by
  intro k hk
  simp only [mnW3, List.mem_cons, List.not_mem_nil, or_false] at hk
  rcases hk with rfl | rfl | rfl | rfl | rfl
  · exact lw_lit (by decide) (by decide)
  · exact cons_line (by decide) (by decide) (by decide) (sec_line _)
  · exact cons_line (by decide) (by decide) (by decide) (sec_line _)
  · exact cons_line (by decide) (by decide) (by decide) (sec_line _)
  · exact lw_lit (by decide) (by decide)
include hc hl h0 h1 in
theorem mn_1 : ∃ L : Int, mParse (joinB m_ms (mnW1 cas fl sec) ++ 13 :: 10 :: [13, 10]) = (⟨1, [{ Cd.zero with op := 2, mode := 2, key := [107], flags := fl, exp := sec, cas := cas, hasCas := true, recache := -1, inval := true }], false, [], 0, false, m_ms, (mnW1 cas fl sec).drop 2, [107]⟩, L) := by
  have d1 := dec_len_le cas hc
  have d2 := dec_len_le fl (by omega)
  have d3 := secText_len h0 h1
  have h := m_words' (name := m_ms) (lw_lit (by decide) (by decide)) (mnW1_line cas fl sec) (by simp [joinB, mnW1, m_ms]; omega) [13, 10]
  have ha := mn_all1 (fl := fl) hc hl h0 h1
  have hr : readM m_ms (mnW1 cas fl sec) [13, 10] = (⟨1, [{ Cd.zero with op := 2, mode := 2, key := [107], flags := fl, exp := sec, cas := cas, hasCas := true, recache := -1, inval := true }], false, [], 0, false, m_ms, (mnW1 cas fl sec).drop 2, [107]⟩, 2, false) := by
    have e2 : numF [48] = (0, true) := rfl
    rw [show readM m_ms (mnW1 cas fl sec) [13, 10] = (if (numF [48]).2 && decide ((numF [48]).1 ≤ 1073741824) then restM m_ms [107] ((mnW1 cas fl sec).drop 2) ((numF [48]).1.toNat + 2) [13, 10] else (badM f_format 0, 0, false)) from by simp only [readM, mnW1, if_true, List.drop_succ_cons, List.drop_zero]]
    rw [e2, if_pos (by decide)]
    have hf : flagsM m_ms ((mnW1 cas fl sec).drop 2) = _ := ha
    have hk : keyM m_ms [107] ((mnW1 cas fl sec).drop 2) = some [107] := by unfold keyM; rw [hf]; rfl
    have hw : ∀ z, z ≤ 65538 → wrongM m_ms [107] ((mnW1 cas fl sec).drop 2) z = [] := fun z hz => by
      unfold wrongM; rw [hk, hf, if_neg (by simp), if_neg (by decide), if_neg (by omega)]
    have hn : ¬ wrongM m_ms [107] ((mnW1 cas fl sec).drop 2) ((0 : Int).toNat + 2) ≠ [] := fun h => h (hw _ (by decide))
    unfold restM
    rw [if_neg hn]
    unfold doneM
    rw [hk, hf]
    simp [Cd.zero]
  exact ⟨_, h.trans (lineM_read (by decide) hr)⟩
include hc hd hf h0 h1 m0 m1 in
theorem mn_2 : ∃ L : Int, mParse (joinB m_ma (mnW2 cas delta first sec more) ++ 10 :: []) = (⟨1, [{ Cd.zero with op := 3, key := [107], exp := more, hasExp := true, cas := cas, hasCas := true, delta := delta, init := first, down := true, viv := true, vive := sec, recache := -1 }], false, [], 0, false, m_ma, (mnW2 cas delta first sec more).drop 1, [107]⟩, L) := by
  have d1 := dec_len_le cas hc
  have d2 := dec_len_le delta hd
  have d3 := dec_len_le first hf
  have d4 := secText_len h0 h1
  have d5 := secText_len m0 m1
  have h := m_words (name := m_ma) (lw_lit (by decide) (by decide)) (mnW2_line cas delta first sec more) (by simp [joinB, mnW2, m_ma]; omega) []
  have ha := mn_all2 (sec := sec) (more := more) hc hd hf h0 h1 m0 m1
  have hr : readM m_ma (mnW2 cas delta first sec more) [] = (⟨1, [{ Cd.zero with op := 3, key := [107], exp := more, hasExp := true, cas := cas, hasCas := true, delta := delta, init := first, down := true, viv := true, vive := sec, recache := -1 }], false, [], 0, false, m_ma, (mnW2 cas delta first sec more).drop 1, [107]⟩, 0, false) := by
    rw [show readM m_ma (mnW2 cas delta first sec more) [] = restM m_ma [107] ((mnW2 cas delta first sec more).drop 1) 0 [] from by simp only [readM, mnW2, show ¬ (m_ma = m_ms) from by decide, if_false, List.drop_succ_cons, List.drop_zero]]
    have hf : flagsM m_ma ((mnW2 cas delta first sec more).drop 1) = _ := ha
    have hk : keyM m_ma [107] ((mnW2 cas delta first sec more).drop 1) = some [107] := by unfold keyM; rw [hf]; rfl
    have hw : ∀ z, z ≤ 65538 → wrongM m_ma [107] ((mnW2 cas delta first sec more).drop 1) z = [] := fun z hz => by
      unfold wrongM; rw [hk, hf, if_neg (by simp), if_neg (by decide), if_neg (by omega)]
    have hn : ¬ wrongM m_ma [107] ((mnW2 cas delta first sec more).drop 1) 0 ≠ [] := fun h => h (hw _ (by decide))
    unfold restM
    rw [if_neg hn]
    unfold doneM
    rw [hk, hf]
    simp [Cd.zero]
  exact ⟨_, h.trans (lineM_read (by decide) hr)⟩
include h0 h1 m0 m1 in
theorem mn_3 : ∃ L : Int, mParse (joinB m_mg (mnW3 sec more) ++ 10 :: []) = (⟨1, [{ Cd.zero with op := 1, key := [107], exp := sec, hasExp := true, viv := true, vive := sec, recache := more }], true, [], 0, false, m_mg, (mnW3 sec more).drop 1, [107]⟩, L) := by
  have d4 := secText_len h0 h1
  have d5 := secText_len m0 m1
  have h := m_words (name := m_mg) (lw_lit (by decide) (by decide)) (mnW3_line sec more) (by simp [joinB, mnW3, m_mg]; omega) []
  have ha := mn_all3 (sec := sec) (more := more) h0 h1 m0 m1
  have hr : readM m_mg (mnW3 sec more) [] = (⟨1, [{ Cd.zero with op := 1, key := [107], exp := sec, hasExp := true, viv := true, vive := sec, recache := more }], true, [], 0, false, m_mg, (mnW3 sec more).drop 1, [107]⟩, 0, false) := by
    rw [show readM m_mg (mnW3 sec more) [] = restM m_mg [107] ((mnW3 sec more).drop 1) 0 [] from by simp only [readM, mnW3, show ¬ (m_mg = m_ms) from by decide, if_false, List.drop_succ_cons, List.drop_zero]]
    have hf : flagsM m_mg ((mnW3 sec more).drop 1) = _ := ha
    have hk : keyM m_mg [107] ((mnW3 sec more).drop 1) = some [107] := by unfold keyM; rw [hf]; rfl
    have hw : ∀ z, z ≤ 65538 → wrongM m_mg [107] ((mnW3 sec more).drop 1) z = [] := fun z hz => by
      unfold wrongM; rw [hk, hf, if_neg (by simp), if_neg (by decide), if_neg (by omega)]
    have hn : ¬ wrongM m_mg [107] ((mnW3 sec more).drop 1) 0 ≠ [] := fun h => h (hw _ (by decide))
    unfold restM
    rw [if_neg hn]
    unfold doneM
    rw [hk, hf]
    simp [Cd.zero]
  exact ⟨_, h.trans (lineM_read (by decide) hr)⟩
end
end Go.Proofs.YtlaagebdbcmckaaGreatDoor
