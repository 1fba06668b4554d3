/- NumsBack: the walk. -/
import Derived.Test.YtjfkfnlnjklcdaaDoorRSigned
import Derived.Test.YtjfkfnlnjklcdaaDoorNumsX
import Derived.Test.YtjfkfnlnjklcdaaDoorBackLaw
import Derived.LoopTactic
import Derived.StillTailTactics
import Derived.BigQuiet
import Derived.Deep.DeepCutAuto
import Derived.Deep.CutBlock
import Derived.WalkSpells
namespace Go.Proofs.YtjfkfnlnjklcdaaDoor
open Go.Shelf Go.RowKit

theorem cons_app (c : UInt8) (l : List UInt8) : Value.string ((⟨#[c]⟩ : ByteArray) ++ ⟨l.toArray⟩) = Value.string ⟨(c :: l).toArray⟩ := by
  rfl


set_option maxRecDepth 100000 in
set_option maxHeartbeats 4000000 in
theorem back_lo (n : Int) (a : Int) (n0 : 0 ≤ n) (n1 : n < 18446744073709551616) (a0 : -9223372036854775808 ≤ a) (a1 : a < 9223372036854775808) (h : n < 9223372036854775808) (w : World) (he : Env w) :
    Calls Tryd.prog 11 #[.int .u64 n, .int .i64 a] w fun e w' => e = .returned (.bool true) ∧ Below w.heap.size w w' := by
  have T1 := fun w htab => textI n n0 n1 w htab
  have hD := decI_len n0 n1
  have P1 : ∀ (k : Nat) (w : World), k ≤ 24 → k + (decI n).length ≤ 20 → Env w → Calls Tryd.prog 23 #[.string ⟨(List.replicate k 48 ++ decI n).toArray⟩] w fun e w' => e = .returned (.tuple #[.int .u64 n, .bool true]) ∧ Below w.heap.size w w' := by
    intro k w hk h he
    have := parse (List.replicate k 48 ++ decI n) (by simp; omega) w he
    unfold decI at this h ⊢
    rw [parseR_some (n := n.toNat) (by rw [parseV_zeros k n.toNat (by omega), if_pos (by simpa using h)]), show ((n.toNat : Nat) : Int) = n by omega] at this
    exact this
  have P2 : ∀ (k : Nat) (w : World), k ≤ 24 → ¬ k + (decI n).length ≤ 20 → Env w → Calls Tryd.prog 23 #[.string ⟨(List.replicate k 48 ++ decI n).toArray⟩] w fun e w' => e = .returned (.tuple #[.int .u64 0, .bool false]) ∧ Below w.heap.size w w' := by
    intro k w hk h he
    have := parse (List.replicate k 48 ++ decI n) (by simp; omega) w he
    unfold decI at this h ⊢
    rw [parseR_none (by rw [parseV_zeros k n.toNat (by omega), if_neg (by simpa using h)])] at this
    exact this
  have S1 := fun w he => signed (decI n) (by omega) w he
  have S2 := fun w he => signed (45 :: decI n) (by simp; omega) w he
  have hn : n.toNat < 9223372036854775808 := by omega
  have hs1 : signedV (decI n) = some n := by unfold decI; rw [signedV_dec_lo _ hn]; congr 1; omega
  have hs2 : signedV (45 :: decI n) = some (-n) := by unfold decI; rw [signedV_dash_lo _ (by omega)]; congr 2; omega
  rw [signedR_some hs1] at S1; rw [signedR_some hs2] at S2
  clear hs1 hs2 hn
  generalize decI n = D at *
  have B1 := Lib.hid T1; have B2 := Lib.hid P1; have B3 := Lib.hid P2; have B4 := Lib.hid S1; have B5 := Lib.hid S2; have HD := Lib.hid hD
  clear T1 P1 P2 S1 S2 hD
  go_enter Tryd.func11, Tryd.ntmps11
  go_wp2_with fail
  refine (nshown w he).mono ?_
  rintro e w1 ⟨rfl, b1⟩
  have he1 := he.below b1
  go_wp2_with fail
  refine (B1.out _ he1.pow).mono ?_
  rintro e w2 ⟨rfl, b2⟩
  have he2 := he1.below b2
  have u2 := ((Upd.refl Non w).below b1).below b2
  go_upto_if 19 with fail
  go_cut [1] (fun v wx => ∃ q : Int, 0 ≤ q ∧ q < 9223372036854775808 ∧ v = .int .i64 q ∧ wx = w2)
  case first =>
    by_cases hn : a < 0
    · go_wp2_with fail
      go_meet
      exact ⟨-(a + 1), by omega, by omega, by go_num, rfl⟩
    · have hn' : 0 ≤ a := by omega
      go_wp2_with fail
      go_meet
      exact ⟨a, by omega, by omega, rfl, rfl⟩
  case rest =>
    obtain ⟨q, q0, q1, rfl, rfl⟩ := hcut
    obtain ⟨m, hm⟩ : ∃ m : Nat, q % 25 = m := ⟨(q % 25).toNat, by omega⟩
    have hm24 : m ≤ 24 := by omega
    have HM := Lib.hid hm; clear hm
    go_wp2_with fail
    rw [HM.out]
    go_loop [7, 8] (fun t i => ∃ k : Nat, k ≤ m ∧ i = .int .i64 k ∧ t = .string ⟨(List.replicate k 48 ++ D).toArray⟩) (fun _ i => m - (intOf i).toNat)
    case atStart => exact ⟨0, by omega, rfl, by simp⟩
    case round =>
      obtain ⟨k, hk, rfl, rfl⟩ := hrel
      by_cases hlt : k < m
      · have hlt' : (k : Int) < (m : Int) := by omega
        have hfit : ¬ 9223372036854775807 < 1 + (k + D.length) := by have := HD.out; omega
        go_wp2_with fail
        go_round
        case rel => exact ⟨k + 1, by omega, by go_num, by rw [cons_app]; rfl⟩
        case measure => simp [intOf]; omega
      · have hle' : (m : Int) ≤ (k : Int) := by omega
        have hkm : k = m := by omega
        subst hkm
        have HK := Lib.hid hk; clear hk
        by_cases hc : k + D.length ≤ 20
        · have hc' : (k : Int) + (D.length : Int) ≤ 20 := by omega
          go_wp2_with fail
          refine (B2.out k _ hm24 hc he2).mono ?_
          rintro e w3 ⟨rfl, b3⟩
          have he3 := he2.below b3
          have u3 := u2.below b3
          go_wp2_with fail
          refine (B4.out _ he3).mono ?_
          rintro e w4 ⟨rfl, b4⟩
          have he4 := he3.below b4
          have u4 := u3.below b4
          have hfit : ¬ 9223372036854775807 < 1 + D.length := by have := HD.out; omega
          go_wp2_with fail
          rw [cons_app]
          refine (B5.out _ he4).mono ?_
          rintro e w5 ⟨rfl, b5⟩
          have hfin := (u4.below b5).to_below
          go_wp2_with fail
          go_ret
          exact ⟨rfl, hfin⟩
        · have hc' : 20 < (k : Int) + (D.length : Int) := by omega
          go_wp2_with fail
          refine (B3.out k _ hm24 hc he2).mono ?_
          rintro e w3 ⟨rfl, b3⟩
          have he3 := he2.below b3
          have u3 := u2.below b3
          go_wp2_with fail
          refine (B4.out _ he3).mono ?_
          rintro e w4 ⟨rfl, b4⟩
          have he4 := he3.below b4
          have u4 := u3.below b4
          have hfit : ¬ 9223372036854775807 < 1 + D.length := by have := HD.out; omega
          go_wp2_with fail
          rw [cons_app]
          refine (B5.out _ he4).mono ?_
          rintro e w5 ⟨rfl, b5⟩
          have hfin := (u4.below b5).to_below
          go_wp2_with fail
          go_ret
          exact ⟨rfl, hfin⟩


set_option maxRecDepth 100000 in
set_option maxHeartbeats 4000000 in
theorem back_eq (n : Int) (a : Int) (n0 : 0 ≤ n) (n1 : n < 18446744073709551616) (a0 : -9223372036854775808 ≤ a) (a1 : a < 9223372036854775808) (h : n = 9223372036854775808) (w : World) (he : Env w) :
    Calls Tryd.prog 11 #[.int .u64 n, .int .i64 a] w fun e w' => e = .returned (.bool true) ∧ Below w.heap.size w w' := by
  have T1 := fun w htab => textI n n0 n1 w htab
  have hD := decI_len n0 n1
  have P1 : ∀ (k : Nat) (w : World), k ≤ 24 → k + (decI n).length ≤ 20 → Env w → Calls Tryd.prog 23 #[.string ⟨(List.replicate k 48 ++ decI n).toArray⟩] w fun e w' => e = .returned (.tuple #[.int .u64 n, .bool true]) ∧ Below w.heap.size w w' := by
    intro k w hk h he
    have := parse (List.replicate k 48 ++ decI n) (by simp; omega) w he
    unfold decI at this h ⊢
    rw [parseR_some (n := n.toNat) (by rw [parseV_zeros k n.toNat (by omega), if_pos (by simpa using h)]), show ((n.toNat : Nat) : Int) = n by omega] at this
    exact this
  have P2 : ∀ (k : Nat) (w : World), k ≤ 24 → ¬ k + (decI n).length ≤ 20 → Env w → Calls Tryd.prog 23 #[.string ⟨(List.replicate k 48 ++ decI n).toArray⟩] w fun e w' => e = .returned (.tuple #[.int .u64 0, .bool false]) ∧ Below w.heap.size w w' := by
    intro k w hk h he
    have := parse (List.replicate k 48 ++ decI n) (by simp; omega) w he
    unfold decI at this h ⊢
    rw [parseR_none (by rw [parseV_zeros k n.toNat (by omega), if_neg (by simpa using h)])] at this
    exact this
  have S1 := fun w he => signed (decI n) (by omega) w he
  have S2 := fun w he => signed (45 :: decI n) (by simp; omega) w he
  have hn : n.toNat = 9223372036854775808 := by omega
  have hs1 : signedV (decI n) = none := by unfold decI; rw [signedV_dec_hi _ (by omega)]
  have hs2 : signedV (45 :: decI n) = some (-n) := by unfold decI; rw [signedV_dash_lo _ (by omega)]; congr 2; omega
  rw [signedR_none hs1] at S1; rw [signedR_some hs2] at S2
  clear hs1 hs2 hn
  have h' : 9223372036854775808 ≤ n := by omega
  have HE := Lib.hid h; clear h
  generalize decI n = D at *
  have B1 := Lib.hid T1; have B2 := Lib.hid P1; have B3 := Lib.hid P2; have B4 := Lib.hid S1; have B5 := Lib.hid S2; have HD := Lib.hid hD
  clear T1 P1 P2 S1 S2 hD
  go_enter Tryd.func11, Tryd.ntmps11
  go_wp2_with fail
  refine (nshown w he).mono ?_
  rintro e w1 ⟨rfl, b1⟩
  have he1 := he.below b1
  go_wp2_with fail
  refine (B1.out _ he1.pow).mono ?_
  rintro e w2 ⟨rfl, b2⟩
  have he2 := he1.below b2
  have u2 := ((Upd.refl Non w).below b1).below b2
  go_upto_if 19 with fail
  go_cut [1] (fun v wx => ∃ q : Int, 0 ≤ q ∧ q < 9223372036854775808 ∧ v = .int .i64 q ∧ wx = w2)
  case first =>
    by_cases hn : a < 0
    · go_wp2_with fail
      go_meet
      exact ⟨-(a + 1), by omega, by omega, by go_num, rfl⟩
    · have hn' : 0 ≤ a := by omega
      go_wp2_with fail
      go_meet
      exact ⟨a, by omega, by omega, rfl, rfl⟩
  case rest =>
    obtain ⟨q, q0, q1, rfl, rfl⟩ := hcut
    obtain ⟨m, hm⟩ : ∃ m : Nat, q % 25 = m := ⟨(q % 25).toNat, by omega⟩
    have hm24 : m ≤ 24 := by omega
    have HM := Lib.hid hm; clear hm
    go_wp2_with fail
    rw [HM.out]
    go_loop [7, 8] (fun t i => ∃ k : Nat, k ≤ m ∧ i = .int .i64 k ∧ t = .string ⟨(List.replicate k 48 ++ D).toArray⟩) (fun _ i => m - (intOf i).toNat)
    case atStart => exact ⟨0, by omega, rfl, by simp⟩
    case round =>
      obtain ⟨k, hk, rfl, rfl⟩ := hrel
      by_cases hlt : k < m
      · have hlt' : (k : Int) < (m : Int) := by omega
        have hfit : ¬ 9223372036854775807 < 1 + (k + D.length) := by have := HD.out; omega
        go_wp2_with fail
        go_round
        case rel => exact ⟨k + 1, by omega, by go_num, by rw [cons_app]; rfl⟩
        case measure => simp [intOf]; omega
      · have hle' : (m : Int) ≤ (k : Int) := by omega
        have hkm : k = m := by omega
        subst hkm
        have HK := Lib.hid hk; clear hk
        by_cases hc : k + D.length ≤ 20
        · have hc' : (k : Int) + (D.length : Int) ≤ 20 := by omega
          go_wp2_with fail
          refine (B2.out k _ hm24 hc he2).mono ?_
          rintro e w3 ⟨rfl, b3⟩
          have he3 := he2.below b3
          have u3 := u2.below b3
          go_wp2_with fail
          refine (B4.out _ he3).mono ?_
          rintro e w4 ⟨rfl, b4⟩
          have he4 := he3.below b4
          have u4 := u3.below b4
          have hfit : ¬ 9223372036854775807 < 1 + D.length := by have := HD.out; omega
          go_wp2_with fail
          rw [cons_app]
          refine (B5.out _ he4).mono ?_
          rintro e w5 ⟨rfl, b5⟩
          have hfin := (u4.below b5).to_below
          go_wp2_with fail
          go_ret
          exact ⟨ret_bool (by rw [HE.out]; rfl), hfin⟩
        · have hc' : 20 < (k : Int) + (D.length : Int) := by omega
          go_wp2_with fail
          refine (B3.out k _ hm24 hc he2).mono ?_
          rintro e w3 ⟨rfl, b3⟩
          have he3 := he2.below b3
          have u3 := u2.below b3
          go_wp2_with fail
          refine (B4.out _ he3).mono ?_
          rintro e w4 ⟨rfl, b4⟩
          have he4 := he3.below b4
          have u4 := u3.below b4
          have hfit : ¬ 9223372036854775807 < 1 + D.length := by have := HD.out; omega
          go_wp2_with fail
          rw [cons_app]
          refine (B5.out _ he4).mono ?_
          rintro e w5 ⟨rfl, b5⟩
          have hfin := (u4.below b5).to_below
          go_wp2_with fail
          go_ret
          exact ⟨ret_bool (by rw [HE.out]; rfl), hfin⟩


set_option maxRecDepth 100000 in
set_option maxHeartbeats 4000000 in
theorem back_hi (n : Int) (a : Int) (n0 : 0 ≤ n) (n1 : n < 18446744073709551616) (a0 : -9223372036854775808 ≤ a) (a1 : a < 9223372036854775808) (h : 9223372036854775808 < n) (w : World) (he : Env w) :
    Calls Tryd.prog 11 #[.int .u64 n, .int .i64 a] w fun e w' => e = .returned (.bool true) ∧ Below w.heap.size w w' := by
  have T1 := fun w htab => textI n n0 n1 w htab
  have hD := decI_len n0 n1
  have P1 : ∀ (k : Nat) (w : World), k ≤ 24 → k + (decI n).length ≤ 20 → Env w → Calls Tryd.prog 23 #[.string ⟨(List.replicate k 48 ++ decI n).toArray⟩] w fun e w' => e = .returned (.tuple #[.int .u64 n, .bool true]) ∧ Below w.heap.size w w' := by
    intro k w hk h he
    have := parse (List.replicate k 48 ++ decI n) (by simp; omega) w he
    unfold decI at this h ⊢
    rw [parseR_some (n := n.toNat) (by rw [parseV_zeros k n.toNat (by omega), if_pos (by simpa using h)]), show ((n.toNat : Nat) : Int) = n by omega] at this
    exact this
  have P2 : ∀ (k : Nat) (w : World), k ≤ 24 → ¬ k + (decI n).length ≤ 20 → Env w → Calls Tryd.prog 23 #[.string ⟨(List.replicate k 48 ++ decI n).toArray⟩] w fun e w' => e = .returned (.tuple #[.int .u64 0, .bool false]) ∧ Below w.heap.size w w' := by
    intro k w hk h he
    have := parse (List.replicate k 48 ++ decI n) (by simp; omega) w he
    unfold decI at this h ⊢
    rw [parseR_none (by rw [parseV_zeros k n.toNat (by omega), if_neg (by simpa using h)])] at this
    exact this
  have S1 := fun w he => signed (decI n) (by omega) w he
  have S2 := fun w he => signed (45 :: decI n) (by simp; omega) w he
  have hs1 : signedV (decI n) = none := by unfold decI; rw [signedV_dec_hi _ (by omega)]
  have hs2 : signedV (45 :: decI n) = none := by unfold decI; rw [signedV_dash_hi _ (by omega)]
  rw [signedR_none hs1] at S1; rw [signedR_none hs2] at S2
  clear hs1 hs2
  have h' : 9223372036854775808 ≤ n := by omega
  generalize decI n = D at *
  have B1 := Lib.hid T1; have B2 := Lib.hid P1; have B3 := Lib.hid P2; have B4 := Lib.hid S1; have B5 := Lib.hid S2; have HD := Lib.hid hD
  clear T1 P1 P2 S1 S2 hD
  go_enter Tryd.func11, Tryd.ntmps11
  go_wp2_with fail
  refine (nshown w he).mono ?_
  rintro e w1 ⟨rfl, b1⟩
  have he1 := he.below b1
  go_wp2_with fail
  refine (B1.out _ he1.pow).mono ?_
  rintro e w2 ⟨rfl, b2⟩
  have he2 := he1.below b2
  have u2 := ((Upd.refl Non w).below b1).below b2
  go_upto_if 19 with fail
  go_cut [1] (fun v wx => ∃ q : Int, 0 ≤ q ∧ q < 9223372036854775808 ∧ v = .int .i64 q ∧ wx = w2)
  case first =>
    by_cases hn : a < 0
    · go_wp2_with fail
      go_meet
      exact ⟨-(a + 1), by omega, by omega, by go_num, rfl⟩
    · have hn' : 0 ≤ a := by omega
      go_wp2_with fail
      go_meet
      exact ⟨a, by omega, by omega, rfl, rfl⟩
  case rest =>
    obtain ⟨q, q0, q1, rfl, rfl⟩ := hcut
    obtain ⟨m, hm⟩ : ∃ m : Nat, q % 25 = m := ⟨(q % 25).toNat, by omega⟩
    have hm24 : m ≤ 24 := by omega
    have HM := Lib.hid hm; clear hm
    go_wp2_with fail
    rw [HM.out]
    go_loop [7, 8] (fun t i => ∃ k : Nat, k ≤ m ∧ i = .int .i64 k ∧ t = .string ⟨(List.replicate k 48 ++ D).toArray⟩) (fun _ i => m - (intOf i).toNat)
    case atStart => exact ⟨0, by omega, rfl, by simp⟩
    case round =>
      obtain ⟨k, hk, rfl, rfl⟩ := hrel
      by_cases hlt : k < m
      · have hlt' : (k : Int) < (m : Int) := by omega
        have hfit : ¬ 9223372036854775807 < 1 + (k + D.length) := by have := HD.out; omega
        go_wp2_with fail
        go_round
        case rel => exact ⟨k + 1, by omega, by go_num, by rw [cons_app]; rfl⟩
        case measure => simp [intOf]; omega
      · have hle' : (m : Int) ≤ (k : Int) := by omega
        have hkm : k = m := by omega
        subst hkm
        have HK := Lib.hid hk; clear hk
        by_cases hc : k + D.length ≤ 20
        · have hc' : (k : Int) + (D.length : Int) ≤ 20 := by omega
          go_wp2_with fail
          refine (B2.out k _ hm24 hc he2).mono ?_
          rintro e w3 ⟨rfl, b3⟩
          have he3 := he2.below b3
          have u3 := u2.below b3
          go_wp2_with fail
          refine (B4.out _ he3).mono ?_
          rintro e w4 ⟨rfl, b4⟩
          have he4 := he3.below b4
          have u4 := u3.below b4
          have hfit : ¬ 9223372036854775807 < 1 + D.length := by have := HD.out; omega
          go_wp2_with fail
          rw [cons_app]
          refine (B5.out _ he4).mono ?_
          rintro e w5 ⟨rfl, b5⟩
          have hfin := (u4.below b5).to_below
          go_wp2_with fail
          go_ret
          exact ⟨ret_bool (by simp; omega), hfin⟩
        · have hc' : 20 < (k : Int) + (D.length : Int) := by omega
          go_wp2_with fail
          refine (B3.out k _ hm24 hc he2).mono ?_
          rintro e w3 ⟨rfl, b3⟩
          have he3 := he2.below b3
          have u3 := u2.below b3
          go_wp2_with fail
          refine (B4.out _ he3).mono ?_
          rintro e w4 ⟨rfl, b4⟩
          have he4 := he3.below b4
          have u4 := u3.below b4
          have hfit : ¬ 9223372036854775807 < 1 + D.length := by have := HD.out; omega
          go_wp2_with fail
          rw [cons_app]
          refine (B5.out _ he4).mono ?_
          rintro e w5 ⟨rfl, b5⟩
          have hfin := (u4.below b5).to_below
          go_wp2_with fail
          go_ret
          exact ⟨ret_bool (by simp; omega), hfin⟩

end Go.Proofs.YtjfkfnlnjklcdaaDoor
