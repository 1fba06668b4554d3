/- NumsBad: the walk. -/
import Derived.Test.YtjfkfnlnjklcdaaDoorRSigned
import Derived.Test.YtjfkfnlnjklcdaaDoorNumsX
import Derived.Test.YtjfkfnlnjklcdaaDoorBackLaw
import Derived.LoopTactic
import Derived.StillTailTactics
import Derived.BigQuiet
import Derived.Deep.DeepCutAuto
import Derived.Deep.CutBlock
import Derived.WalkSpells
import Derived.RegionTactic
import Derived.Maps.AppendAt
import Derived.Deep.DeepMust
import Derived.Deep.RegionHeld3
import Derived.Deep.RegionHeld
import Derived.Deep.AppendLies
namespace Go.Proofs.YtjfkfnlnjklcdaaDoor
open Go.Shelf Go.RowKit

theorem take_str (l : List UInt8) (k : Nat) : (⟨l.toArray⟩ : ByteArray).extract 0 k = ⟨(l.take k).toArray⟩ := by
  apply ByteArray.ext
  simp [ByteArray.data_extract]
theorem drop_str (l : List UInt8) (k : Nat) : (⟨l.toArray⟩ : ByteArray).extract k l.length = ⟨(l.drop k).toArray⟩ := by
  apply ByteArray.ext
  simp [ByteArray.data_extract, List.take_of_length_le]
theorem sl_take (l : List UInt8) (k : Nat) (hk : k ≤ l.length) (W : World) : (Instr.slice 9 (.string ⟨l.toArray⟩) none (some (.int .i64 (k : Int))) none).run Tryd.prog W = .ok (.string ⟨(l.take k).toArray⟩) W := by
  rw [run_slice_string_h (P := Tryd.prog) W 9 ⟨l.toArray⟩ Tryd.underlying9 .i64 (k : Int) (by omega) (by show (k : Int) ≤ ((l.toArray.size : Nat) : Int); simp; omega)]
  rw [Int.toNat_natCast, take_str]
theorem sl_drop (l : List UInt8) (k : Nat) (hk : k ≤ l.length) (W : World) : (Instr.slice 9 (.string ⟨l.toArray⟩) (some (.int .i64 (k : Int))) none none).run Tryd.prog W = .ok (.string ⟨(l.drop k).toArray⟩) W := by
  rw [run_slice_string_l (P := Tryd.prog) W 9 ⟨l.toArray⟩ Tryd.underlying9 .i64 (k : Int) (by omega) (by show (k : Int) ≤ ((l.toArray.size : Nat) : Int); simp; omega)]
  rw [Int.toNat_natCast]
  exact congrArg (fun b => Result.ok (Value.string b) W) (drop_str l k)
theorem abc_app (A Z : List UInt8) (c : UInt8) : Value.string ((⟨A.toArray⟩ : ByteArray) ++ ⟨#[c]⟩ ++ ⟨Z.toArray⟩) = Value.string ⟨(A ++ [c] ++ Z).toArray⟩ := by
  simp only [ByteArray.mk_append_mk]
theorem cv_one (c : UInt8) (i : Nat) (W : World) (h : W.cell? ⟨i, 0, none⟩ = some (.int .u8 (c.toNat : Int))) : (convert 57 9 (.slice (some ⟨i, 0, none⟩) 1 1)).run Tryd.prog W = .ok (.string ⟨#[c]⟩) W := by
  have h := run_convert_bytes_back (P := Tryd.prog) W 57 9 5 ⟨i, 0, none⟩ 1 [c] Tryd.underlying57 Tryd.underlying5 Tryd.underlying9 (fun j hj => by
    have : j = 0 := by simp at hj; omega
    subst this
    exact h)
  exact h

set_option maxRecDepth 100000 in
set_option maxHeartbeats 4000000 in
theorem bad_dgt (n : Int) (c : Int) (a : Int) (c0 : 48 ≤ c) (c1 : c ≤ 57) (w : World) (he : Env w) :
    Calls Tryd.prog 12 #[.int .u64 n, .int .u8 c, .int .i64 a] w fun e w' => e = .returned (.bool true) ∧ Below w.heap.size w w' := by
  go_enter Tryd.func12, Tryd.ntmps12
  go_wp2_with fail
  refine (nshown w he).mono ?_
  rintro e w1 ⟨rfl, b1⟩
  go_wp2_with fail
  go_ret
  exact ⟨rfl, b1⟩

set_option maxRecDepth 100000 in
set_option maxHeartbeats 4000000 in
theorem bad_walk (n : Int) (c : UInt8) (a : Int) (n0 : 0 ≤ n) (n1 : n < 18446744073709551616) (hc : ¬ (48 ≤ c.toNat ∧ c.toNat ≤ 57)) (a0 : -9223372036854775808 ≤ a) (a1 : a < 9223372036854775808) (w : World) (he : Env w) :
    Calls Tryd.prog 12 #[.int .u64 n, .int .u8 (c.toNat : Int), .int .i64 a] w fun e w' => e = .returned (.bool true) ∧ Below w.heap.size w w' := by
  have T1 := fun w htab => textI n n0 n1 w htab
  have hD := decI_len n0 n1
  have hdg : dgt c = false := by unfold dgt; rw [Bool.and_eq_false_iff, decide_eq_false_iff_not, decide_eq_false_iff_not]; omega
  have hl : ∀ k : Nat, (List.take k (decI n) ++ [c] ++ List.drop k (decI n)).length ≤ 9223372036854775807 := by intro k; simp; omega
  have P := fun k w he => parse (List.take k (decI n) ++ [c] ++ List.drop k (decI n)) (hl k) w he
  have PA := fun k w he => add (List.take k (decI n) ++ [c] ++ List.drop k (decI n)) (hl k) 1 (by omega) (by omega) w he
  have PS := fun k w he => sub (List.take k (decI n) ++ [c] ++ List.drop k (decI n)) (hl k) 1 (by omega) (by omega) w he
  have hneg : isNeg (decI n) = false := by unfold decI; exact dec_notneg _
  have PG : ∀ k w, Env w → (c ≠ 45 ∨ k ≠ 0) → Calls Tryd.prog 31 #[.string ⟨(List.take k (decI n) ++ [c] ++ List.drop k (decI n)).toArray⟩] w fun e w' => e = .returned (.tuple #[.int .i64 0, .bool false]) ∧ Below w.heap.size w w' := by
    intro k w he h
    have := signed _ (hl k) w he
    rw [signedR_none (signedV_in (decI n) k c hdg (h.imp id (fun h => by intro e; rw [List.take_eq_nil_iff] at e; rcases e with e | e; exact h e; rw [e] at hD; simp at hD)) hneg)] at this
    exact this
  have PH := fun k w he => signed (List.take k (decI n) ++ [c] ++ List.drop k (decI n)) (hl k) w he
  unfold signedR at PH
  unfold addR at PA
  unfold subR at PS
  simp only [parseV_in (decI n) _ c hdg, parseR_none] at P PA PS
  generalize decI n = D at *
  have B1 := Lib.hid T1; have B2 := Lib.hid P; have B3 := Lib.hid PA; have B4 := Lib.hid PS; have B5 := Lib.hid PG; have B6 := Lib.hid PH; have HD := Lib.hid hD
  have HC := Lib.hid hc
  clear T1 P PA PS PG PH hD hneg hdg hl
  go_enter Tryd.func12, Tryd.ntmps12
  go_wp2_with fail
  refine (nshown w he).mono ?_
  rintro e w1 ⟨rfl, b1⟩
  have he1 := he.below b1
  have hc' : ¬ ((48 : Int) ≤ (c.toNat : Int) ∧ (c.toNat : Int) ≤ 57) := by omega
  go_wp2_with fail
  · refine (B1.out _ he1.pow).mono ?_
    rintro e w2 ⟨rfl, b2⟩
    have he2 := he1.below b2
    have u2 := ((Upd.refl Non w).below b1).below b2
    go_upto_if 30 with fail
    go_cut [2] (fun v wx => ∃ q : Int, 0 ≤ q ∧ q < 9223372036854775808 ∧ v = .int .i64 q ∧ wx = w2)
    case first =>
      by_cases hn : a < 0
      · go_wp2_with fail
        go_meet
        exact ⟨-(a + 1), by omega, by omega, by go_num, rfl⟩
      · have hn' : 0 ≤ a := by omega
        go_wp2_with fail
        go_meet
        exact ⟨a, by omega, by omega, rfl, rfl⟩
    case rest =>
      obtain ⟨q, q0, q1, rfl, rfl⟩ := hcut
      obtain ⟨m, hm⟩ : ∃ m : Nat, q % ((D.length : Int) + 1) = m := ⟨(q % ((D.length : Int) + 1)).toNat, by have := Int.emod_nonneg q (show ((D.length : Int) + 1) ≠ 0 by omega); omega⟩
      have hmD : m ≤ D.length := by have := Int.emod_lt_of_pos q (show 0 < ((D.length : Int) + 1) by omega); omega
      have hw1 : IntKind.i64.wrap ((D.length : Int) + 1) = (D.length : Int) + 1 := by have := HD.out; rw [IntKind.wrap_i64]; omega
      have hz : ¬ ((D.length : Int) + 1 = 0) := by omega
      have HM := Lib.hid hm; clear hm
      go_upto_region 8 with fail
      rw [HM.out]
      have hs1 := sl_take D m hmD
      have hs2 := sl_drop D m hmD
      obtain ⟨A, hA⟩ : ∃ A, A = List.take m D := ⟨_, rfl⟩
      obtain ⟨Z, hZ⟩ : ∃ Z, Z = List.drop m D := ⟨_, rfl⟩
      have hAl : A.length ≤ 20 := by rw [hA]; have := HD.out; simp; omega
      have hZl : Z.length ≤ 20 := by rw [hZ]; have := HD.out; simp; omega
      have C2 := B2.out m; have C3 := B3.out m; have C4 := B4.out m; have C5 := B5.out m; have C6 := B6.out m
      rw [← hA, ← hZ] at C2 C3 C4 C5 C6
      rw [← hA] at hs1; rw [← hZ] at hs2
      have G2 := Lib.hid C2; have G3 := Lib.hid C3; have G4 := Lib.hid C4; have G5 := Lib.hid C5; have G6 := Lib.hid C6
      clear C2 C3 C4 C5 C6 hA hZ B2 B3 B4 B5 B6
      have q1 : ¬ 9223372036854775807 < A.length + 1 := by omega
      have q2 : ¬ 9223372036854775807 < A.length + 1 + Z.length := by omega
      go_wp2_with fail
      go_region_held (fun _ => True)
        (first | trivial | go_keep)
        (first
          | (rw [cv_one c _ _ (by rfl)])
          | (rw [cv_one c _ _ (by simp)]))
      have u3 := (u2.alloc (.cells #[.int .u8 (c.toNat : Int)] 5)).drew
      rw [abc_app]
      have he3 := he.below u3.to_below
      generalize A ++ [c] ++ Z = T at *
      go_wp2_with fail
      refine (G2.out _ he3).mono ?_
      rintro e w4 ⟨rfl, b4⟩
      have he4 := he3.below b4
      have u4 := u3.below b4
      go_wp2_with fail
      refine (G3.out _ he4).mono ?_
      rintro e w5 ⟨rfl, b5⟩
      have he5 := he4.below b5
      have u5 := u4.below b5
      go_wp2_with fail
      refine (G4.out _ he5).mono ?_
      rintro e w6 ⟨rfl, b6⟩
      have he6 := he5.below b6
      have u6 := u5.below b6
      go_wp2_with fail
      by_cases hg : c = 45 ∧ m = 0
      · obtain ⟨hg1, hg2⟩ := hg
        have hg1' : (c.toNat : Int) = 45 := by rw [hg1]; rfl
        have hg2' : (m : Int) = 0 := by omega
        have G7 := G6.out _ he6
        generalize (signedV T).getD 0 = z at G7
        generalize (signedV T).isSome = b at G7
        cases b
        · refine G7.mono ?_
          rintro e w7 ⟨rfl, b7⟩
          have hfin := (u6.below b7).to_below
          go_wp2_with fail
          all_goals (go_ret; exact ⟨rfl, hfin⟩)
        · refine G7.mono ?_
          rintro e w7 ⟨rfl, b7⟩
          have hfin := (u6.below b7).to_below
          go_wp2_with fail
          all_goals (go_ret; exact ⟨rfl, hfin⟩)
      · refine (G5.out _ he6 (by by_cases h : c = 45; exact .inr (fun h2 => hg ⟨h, h2⟩); exact .inl h)).mono ?_
        rintro e w7 ⟨rfl, b7⟩
        have hfin := (u6.below b7).to_below
        go_wp2_with fail
        all_goals (go_ret; exact ⟨rfl, hfin⟩)
  · refine (B1.out _ he1.pow).mono ?_
    rintro e w2 ⟨rfl, b2⟩
    have he2 := he1.below b2
    have u2 := ((Upd.refl Non w).below b1).below b2
    go_upto_if 30 with fail
    go_cut [2] (fun v wx => ∃ q : Int, 0 ≤ q ∧ q < 9223372036854775808 ∧ v = .int .i64 q ∧ wx = w2)
    case first =>
      by_cases hn : a < 0
      · go_wp2_with fail
        go_meet
        exact ⟨-(a + 1), by omega, by omega, by go_num, rfl⟩
      · have hn' : 0 ≤ a := by omega
        go_wp2_with fail
        go_meet
        exact ⟨a, by omega, by omega, rfl, rfl⟩
    case rest =>
      obtain ⟨q, q0, q1, rfl, rfl⟩ := hcut
      obtain ⟨m, hm⟩ : ∃ m : Nat, q % ((D.length : Int) + 1) = m := ⟨(q % ((D.length : Int) + 1)).toNat, by have := Int.emod_nonneg q (show ((D.length : Int) + 1) ≠ 0 by omega); omega⟩
      have hmD : m ≤ D.length := by have := Int.emod_lt_of_pos q (show 0 < ((D.length : Int) + 1) by omega); omega
      have hw1 : IntKind.i64.wrap ((D.length : Int) + 1) = (D.length : Int) + 1 := by have := HD.out; rw [IntKind.wrap_i64]; omega
      have hz : ¬ ((D.length : Int) + 1 = 0) := by omega
      have HM := Lib.hid hm; clear hm
      go_upto_region 8 with fail
      rw [HM.out]
      have hs1 := sl_take D m hmD
      have hs2 := sl_drop D m hmD
      obtain ⟨A, hA⟩ : ∃ A, A = List.take m D := ⟨_, rfl⟩
      obtain ⟨Z, hZ⟩ : ∃ Z, Z = List.drop m D := ⟨_, rfl⟩
      have hAl : A.length ≤ 20 := by rw [hA]; have := HD.out; simp; omega
      have hZl : Z.length ≤ 20 := by rw [hZ]; have := HD.out; simp; omega
      have C2 := B2.out m; have C3 := B3.out m; have C4 := B4.out m; have C5 := B5.out m; have C6 := B6.out m
      rw [← hA, ← hZ] at C2 C3 C4 C5 C6
      rw [← hA] at hs1; rw [← hZ] at hs2
      have G2 := Lib.hid C2; have G3 := Lib.hid C3; have G4 := Lib.hid C4; have G5 := Lib.hid C5; have G6 := Lib.hid C6
      clear C2 C3 C4 C5 C6 hA hZ B2 B3 B4 B5 B6
      have q1 : ¬ 9223372036854775807 < A.length + 1 := by omega
      have q2 : ¬ 9223372036854775807 < A.length + 1 + Z.length := by omega
      go_wp2_with fail
      go_region_held (fun _ => True)
        (first | trivial | go_keep)
        (first
          | (rw [cv_one c _ _ (by rfl)])
          | (rw [cv_one c _ _ (by simp)]))
      have u3 := (u2.alloc (.cells #[.int .u8 (c.toNat : Int)] 5)).drew
      rw [abc_app]
      have he3 := he.below u3.to_below
      generalize A ++ [c] ++ Z = T at *
      go_wp2_with fail
      refine (G2.out _ he3).mono ?_
      rintro e w4 ⟨rfl, b4⟩
      have he4 := he3.below b4
      have u4 := u3.below b4
      go_wp2_with fail
      refine (G3.out _ he4).mono ?_
      rintro e w5 ⟨rfl, b5⟩
      have he5 := he4.below b5
      have u5 := u4.below b5
      go_wp2_with fail
      refine (G4.out _ he5).mono ?_
      rintro e w6 ⟨rfl, b6⟩
      have he6 := he5.below b6
      have u6 := u5.below b6
      go_wp2_with fail
      by_cases hg : c = 45 ∧ m = 0
      · obtain ⟨hg1, hg2⟩ := hg
        have hg1' : (c.toNat : Int) = 45 := by rw [hg1]; rfl
        have hg2' : (m : Int) = 0 := by omega
        have G7 := G6.out _ he6
        generalize (signedV T).getD 0 = z at G7
        generalize (signedV T).isSome = b at G7
        cases b
        · refine G7.mono ?_
          rintro e w7 ⟨rfl, b7⟩
          have hfin := (u6.below b7).to_below
          go_wp2_with fail
          all_goals (go_ret; exact ⟨rfl, hfin⟩)
        · refine G7.mono ?_
          rintro e w7 ⟨rfl, b7⟩
          have hfin := (u6.below b7).to_below
          go_wp2_with fail
          all_goals (go_ret; exact ⟨rfl, hfin⟩)
      · refine (G5.out _ he6 (by by_cases h : c = 45; exact .inr (fun h2 => hg ⟨h, h2⟩); exact .inl h)).mono ?_
        rintro e w7 ⟨rfl, b7⟩
        have hfin := (u6.below b7).to_below
        go_wp2_with fail
        all_goals (go_ret; exact ⟨rfl, hfin⟩)
end Go.Proofs.YtjfkfnlnjklcdaaDoor
