/- (from XRNums) The reference's reader of numbers: a text says one number or none. -/
import Derived.Test.YtlaagebdbcmckaaGreatDoorBE
namespace Go.Proofs.YtlaagebdbcmckaaGreatDoor
set_option linter.unusedSimpArgs false
set_option linter.unusedVariables false
open Go.Shelf Go.RowKit
set_option maxHeartbeats 1000000 in
theorem rparse (l : List UInt8) (hl : l.length ≤ 9223372036854775807) (w : World) :
    Calls Tryz.prog 48 #[.string ⟨l.toArray⟩] w fun e w' => e = .returned (parseR l) ∧ w = w' := by
  by_cases hlen : l.length < 1 ∨ 20 < l.length
  · rw [parseR_none (parseV_len l hlen)]
    by_cases h1 : l.length < 1
    · have h1' : (l.length : Int) < 1 := by omega
      go_enter Tryz.func48, Tryz.ntmps48
      go_wp2_with fail
      go_ret2
      exact ⟨rfl, rfl⟩
    · have h1' : 1 ≤ (l.length : Int) := by omega
      have h2' : 20 < (l.length : Int) := by omega
      go_enter Tryz.func48, Tryz.ntmps48
      go_wp2_with fail
      go_ret2
      exact ⟨rfl, rfl⟩
  · obtain ⟨n, hn⟩ : ∃ n, n = l.length := ⟨_, rfl⟩
    have h1 : 1 ≤ n := by omega
    have h2 : n ≤ 20 := by omega
    have h1' : 1 ≤ (n : Int) := by omega
    have h2' : (n : Int) ≤ 20 := by omega
    have HN := Lib.hid hn
    clear hlen
    go_enter Tryz.func48, Tryz.ntmps48
    go_wp2_with fail
    go_loop [4, 5] (fun v i => ∃ k : Nat, k ≤ n ∧ i = .int .i64 k ∧ v = .int .u64 (valOf (l.take k) : Nat) ∧ allDgt (l.take k) = true ∧ valOf (l.take k) < 18446744073709551616) (fun _ i => n - (intOf i).toNat)
    case atStart => exact ⟨0, by omega, rfl, rfl, rfl, by show (0 : Nat) < _; omega⟩
    case round =>
      obtain ⟨k, hk, rfl, rfl, hd, hv⟩ := hrel
      by_cases hlt : k < n
      · have hkl : k < l.length := by rw [← HN.out]; exact hlt
        have hlt' : (k : Int) < (n : Int) := by omega
        have ht := take_one l k hkl
        have hb := UInt8.toNat_lt l[k]
        have HT := Lib.hid ht; clear ht
        by_cases hc : 48 ≤ l[k].toNat ∧ l[k].toNat ≤ 57
        · have hc1 : (48 : Int) ≤ ((⟨l.toArray⟩ : ByteArray)[k]'hkl).toNat := by show (48 : Int) ≤ (l[k].toNat : Nat); omega
          have hc2 : (((⟨l.toArray⟩ : ByteArray)[k]'hkl).toNat : Int) ≤ 57 := by show ((l[k].toNat : Nat) : Int) ≤ 57; omega
          have hdg : dgt l[k] = true := by simp [dgt, hc]
          have HDG := Lib.hid hdg; have HD := Lib.hid hd; clear hdg hd
          by_cases ho : 18446744073709551616 ≤ 10 * valOf (l.take k) + (l[k].toNat - 48)
          · have ho' : (18446744073709551615 - ((((⟨l.toArray⟩ : ByteArray)[k]'hkl).toNat : Int) - 48)) / 10 < (valOf (l.take k) : Int) := by
              show (18446744073709551615 - (((l[k].toNat : Nat) : Int) - 48)) / 10 < (valOf (l.take k) : Int)
              omega
            have hfin := parseR_none (parseV_over l (k + 1) (by rw [HT.out, valOf_snoc]; exact ho))
            have HF := Lib.hid hfin
            clear hfin ho
            go_wp2_with fail
            go_ret2
            exact ⟨by rw [HF.out]; rfl, rfl⟩
          · have ho' : (valOf (l.take k) : Int) ≤ (18446744073709551615 - ((((⟨l.toArray⟩ : ByteArray)[k]'hkl).toNat : Int) - 48)) / 10 := by
              show (valOf (l.take k) : Int) ≤ (18446744073709551615 - (((l[k].toNat : Nat) : Int) - 48)) / 10
              omega
            go_wp2_with fail
            go_round
            case rel =>
              refine ⟨k + 1, by omega, by go_num, ?_, ?_, ?_⟩
              · rw [HT.out, valOf_snoc]
                have e : ((10 * valOf (l.take k) + (l[k].toNat - 48) : Nat) : Int) = 10 * (valOf (l.take k) : Int) + (((l[k].toNat : Nat) : Int) - 48) := by omega
                rw [e]; rfl
              · rw [HT.out, allDgt_snoc, HD.out, HDG.out]; rfl
              · rw [HT.out, valOf_snoc]; omega
            case measure => simp [intOf]; omega
        · have hdg : dgt l[k] = false := by
            unfold dgt
            rw [Bool.and_eq_false_iff, decide_eq_false_iff_not, decide_eq_false_iff_not]
            omega
          have hfin := parseR_none (parseV_bad l k hkl hdg)
          have HF := Lib.hid hfin
          clear hfin hdg
          by_cases hc1 : l[k].toNat < 48
          · have hc1' : (((⟨l.toArray⟩ : ByteArray)[k]'hkl).toNat : Int) < 48 := by show ((l[k].toNat : Nat) : Int) < 48; omega
            clear hc
            go_wp2_with fail
            go_ret2
            exact ⟨by rw [HF.out]; rfl, rfl⟩
          · have hc1' : (48 : Int) ≤ ((⟨l.toArray⟩ : ByteArray)[k]'hkl).toNat := by show (48 : Int) ≤ (l[k].toNat : Nat); omega
            have hc2' : (57 : Int) < ((⟨l.toArray⟩ : ByteArray)[k]'hkl).toNat := by show (57 : Int) < (l[k].toNat : Nat); omega
            clear hc hc1
            go_wp2_with fail
            go_ret2
            exact ⟨by rw [HF.out]; rfl, rfl⟩
      · obtain rfl : k = n := by omega
        have hfin := parseR_some (parseV_all l (by intro e; rw [e] at hn; simp at hn; omega) (by omega) (by rw [hn, List.take_length] at hd; exact hd) (by rw [hn, List.take_length] at hv; exact hv))
        have HF := Lib.hid hfin
        clear hfin
        go_wp2_with fail
        go_ret2
        exact ⟨by rw [HF.out]; rfl, rfl⟩
end Go.Proofs.YtlaagebdbcmckaaGreatDoor
