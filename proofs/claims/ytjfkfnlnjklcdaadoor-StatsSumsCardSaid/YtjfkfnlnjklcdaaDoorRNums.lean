/- The reference's reader of numbers: a text says one number or none. -/
import Derived.Test.YtjfkfnlnjklcdaaDoorNums
namespace Go.Proofs.YtjfkfnlnjklcdaaDoor
open Go.Shelf Go.RowKit

theorem parseR_none {l : List UInt8} (h : parseV l = none) : parseR l = .tuple #[.int .u64 0, .bool false] := by unfold parseR; rw [h]; rfl
theorem parseR_some {l : List UInt8} {n : Nat} (h : parseV l = some n) : parseR l = .tuple #[.int .u64 n, .bool true] := by unfold parseR; rw [h]; rfl

set_option maxHeartbeats 1000000 in
theorem rparse (l : List UInt8) (hl : l.length ≤ 9223372036854775807) (w : World) :
    Calls Tryd.prog 24 #[.string ⟨l.toArray⟩] w fun e w' => e = .returned (parseR l) ∧ w = w' := by
  by_cases hlen : l.length < 1 ∨ 20 < l.length
  · rw [parseR_none (parseV_len l hlen)]
    by_cases h1 : l.length < 1
    · have h1' : (l.length : Int) < 1 := by omega
      go_enter Tryd.func24, Tryd.ntmps24
      go_wp2_with fail
      go_ret2
      exact ⟨rfl, rfl⟩
    · have h1' : 1 ≤ (l.length : Int) := by omega
      have h2' : 20 < (l.length : Int) := by omega
      go_enter Tryd.func24, Tryd.ntmps24
      go_wp2_with fail
      go_ret2
      exact ⟨rfl, rfl⟩
  · obtain ⟨n, hn⟩ : ∃ n, n = l.length := ⟨_, rfl⟩
    have h1 : 1 ≤ n := by omega
    have h2 : n ≤ 20 := by omega
    have h1' : 1 ≤ (n : Int) := by omega
    have h2' : (n : Int) ≤ 20 := by omega
    have HN := Lib.hid hn
    clear hlen
    go_enter Tryd.func24, Tryd.ntmps24
    go_wp2_with fail
    go_loop [4, 5] (fun v i => ∃ k : Nat, k ≤ n ∧ i = .int .i64 k ∧ v = .int .u64 (valOf (l.take k) : Nat) ∧ allDgt (l.take k) = true ∧ valOf (l.take k) < 18446744073709551616) (fun _ i => n - (intOf i).toNat)
    case atStart => exact ⟨0, by omega, rfl, rfl, rfl, by show (0 : Nat) < _; omega⟩
    case round =>
      obtain ⟨k, hk, rfl, rfl, hd, hv⟩ := hrel
      by_cases hlt : k < n
      · have hkl : k < l.length := by rw [← HN.out]; exact hlt
        have hlt' : (k : Int) < (n : Int) := by omega
        have ht := take_one l k hkl
        have hb := UInt8.toNat_lt l[k]
        have HT := Lib.hid ht; clear ht
        by_cases hc : 48 ≤ l[k].toNat ∧ l[k].toNat ≤ 57
        · have hc1 : (48 : Int) ≤ ((⟨l.toArray⟩ : ByteArray)[k]'hkl).toNat := by show (48 : Int) ≤ (l[k].toNat : Nat); omega
          have hc2 : (((⟨l.toArray⟩ : ByteArray)[k]'hkl).toNat : Int) ≤ 57 := by show ((l[k].toNat : Nat) : Int) ≤ 57; omega
          have hdg : dgt l[k] = true := by simp [dgt, hc]
          have HDG := Lib.hid hdg; have HD := Lib.hid hd; clear hdg hd
          by_cases ho : 18446744073709551616 ≤ 10 * valOf (l.take k) + (l[k].toNat - 48)
          · have ho' : (18446744073709551615 - ((((⟨l.toArray⟩ : ByteArray)[k]'hkl).toNat : Int) - 48)) / 10 < (valOf (l.take k) : Int) := by
              show (18446744073709551615 - (((l[k].toNat : Nat) : Int) - 48)) / 10 < (valOf (l.take k) : Int)
              omega
            have hfin := parseR_none (parseV_over l (k + 1) (by rw [HT.out, valOf_snoc]; exact ho))
            have HF := Lib.hid hfin
            clear hfin ho
            go_wp2_with fail
            go_ret2
            exact ⟨by rw [HF.out]; rfl, rfl⟩
          · have ho' : (valOf (l.take k) : Int) ≤ (18446744073709551615 - ((((⟨l.toArray⟩ : ByteArray)[k]'hkl).toNat : Int) - 48)) / 10 := by
              show (valOf (l.take k) : Int) ≤ (18446744073709551615 - (((l[k].toNat : Nat) : Int) - 48)) / 10
              omega
            go_wp2_with fail
            go_round
            case rel =>
              refine ⟨k + 1, by omega, by go_num, ?_, ?_, ?_⟩
              · rw [HT.out, valOf_snoc]
                have e : ((10 * valOf (l.take k) + (l[k].toNat - 48) : Nat) : Int) = 10 * (valOf (l.take k) : Int) + (((l[k].toNat : Nat) : Int) - 48) := by omega
                rw [e]; rfl
              · rw [HT.out, allDgt_snoc, HD.out, HDG.out]; rfl
              · rw [HT.out, valOf_snoc]; omega
            case measure => simp [intOf]; omega
        · have hdg : dgt l[k] = false := by
            unfold dgt
            rw [Bool.and_eq_false_iff, decide_eq_false_iff_not, decide_eq_false_iff_not]
            omega
          have hfin := parseR_none (parseV_bad l k hkl hdg)
          have HF := Lib.hid hfin
          clear hfin hdg
          by_cases hc1 : l[k].toNat < 48
          · have hc1' : (((⟨l.toArray⟩ : ByteArray)[k]'hkl).toNat : Int) < 48 := by show ((l[k].toNat : Nat) : Int) < 48; omega
            clear hc
            go_wp2_with fail
            go_ret2
            exact ⟨by rw [HF.out]; rfl, rfl⟩
          · have hc1' : (48 : Int) ≤ ((⟨l.toArray⟩ : ByteArray)[k]'hkl).toNat := by show (48 : Int) ≤ (l[k].toNat : Nat); omega
            have hc2' : (57 : Int) < ((⟨l.toArray⟩ : ByteArray)[k]'hkl).toNat := by show (57 : Int) < (l[k].toNat : Nat); omega
            clear hc hc1
            go_wp2_with fail
            go_ret2
            exact ⟨by rw [HF.out]; rfl, rfl⟩
      · obtain rfl : k = n := by omega
        have hfin := parseR_some (parseV_all l (by intro e; rw [e] at hn; simp at hn; omega) (by omega) (by rw [hn, List.take_length] at hd; exact hd) (by rw [hn, List.take_length] at hv; exact hv))
        have HF := Lib.hid hfin
        clear hfin
        go_wp2_with fail
        go_ret2
        exact ⟨by rw [HF.out]; rfl, rfl⟩

/-- what must be in any case: true -/
theorem nshown (w : World) (he : Env w) : Calls Tryd.prog 22 #[] w fun e w' => e = .returned (.bool true) ∧ Below w.heap.size w w' := by
  have P1 := parse [48, 48, 55] (by decide) w he
  rw [parseR_some (n := 7) (by decide)] at P1
  have P2 := fun w he => parse [49, 56, 52, 52, 54, 55, 52, 52, 48, 55, 51, 55, 48, 57, 53, 53, 49, 54, 49, 54] (by decide) w he
  rw [parseR_none (by decide)] at P2
  have T := fun w htab => textI 20 (by omega) (by omega) w htab
  have et : decI 20 = [50, 48] := by decide +kernel
  rw [et] at T
  have H1 := Lib.hid P1; have H2 := Lib.hid P2; have HT := Lib.hid T
  clear P1 P2 T et
  go_enter Tryd.func22, Tryd.ntmps22
  go_wp2_with fail
  refine (H1.out).mono ?_
  rintro e w1 ⟨rfl, b1⟩
  have he1 := he.below b1
  go_wp2_with fail
  refine (H2.out _ he1).mono ?_
  rintro e w2 ⟨rfl, b2⟩
  have he2 := he1.below b2
  go_wp2_with fail
  refine (HT.out _ he2.pow).mono ?_
  rintro e w3 ⟨rfl, b3⟩
  go_wp2_with fail
  go_ret
  exact ⟨rfl, b1.trans ((b2.mono b1.size).trans (b3.mono (Nat.le_trans b1.size b2.size)))⟩
end Go.Proofs.YtjfkfnlnjklcdaaDoor
