/- A number's decimal text in the reference: the recursive Text returns the decimal digits. -/
import Derived.Test.YtjfkfnlnjklcdaaDoorText
import Derived.Test.YtjfkfnlnjklcdaaDoorMem
import Derived.Outline
namespace Go.Proofs.YtjfkfnlnjklcdaaDoor
open Go.Shelf Go.RowKit Go.Lib

/-- the digits of a number that is not below 0 -/
def decI (n : Int) : List UInt8 := Lib.decDigits n.toNat
theorem decI_small {n : Int} (h0 : 0 ≤ n) (h : n < 10) : decI n = [UInt8.ofNat (48 + n.toNat)] := by unfold decI; rw [Lib.decDigits_one (by omega)]
theorem decI_big {n : Int} (h : 10 ≤ n) : decI n = decI (n / 10) ++ decI (n % 10) := by
  unfold decI
  rw [Lib.decDigits, dif_neg (by omega), show (n / 10).toNat = n.toNat / 10 by omega, show (n % 10).toNat = n.toNat % 10 by omega, Lib.decDigits_one (i := n.toNat % 10) (by omega)]
theorem decI_len {n : Int} (h0 : 0 ≤ n) (h : n < 18446744073709551616) : 1 ≤ (decI n).length ∧ (decI n).length ≤ 20 := by
  unfold decI
  rw [Lib.decDigits_length]
  by_cases h1 : 1 ≤ n.toNat
  · have h2 := Lib.numDigits_eq n.toNat h1 (by omega)
    constructor
    · by_cases h10 : n.toNat < 10
      · rw [Lib.nDigits_small h10]; omega
      · rw [Lib.nDigits_big h10]; omega
    · split at h2 <;> omega
  · rw [show n.toNat = 0 by omega, Lib.nDigits_small (by omega)]; omega

/-- nums.Text, over whole numbers -/
theorem textI (n : Int) (h0 : 0 ≤ n) (h : n < 18446744073709551616) (w : World) (htab : Pow w) :
    Calls Tryd.prog 25 #[.int .u64 n] w fun e w' => e = .returned (.string ⟨(decI n).toArray⟩) ∧ Below w.heap.size w w' := by
  have := text n.toNat (by omega) w htab
  rw [show ((n.toNat : Nat) : Int) = n by omega] at this
  exact this

set_option maxHeartbeats 1000000 in
theorem rtext_k (k : Nat) : ∀ (n : Int) (w : World), n.toNat < k → 0 ≤ n → n < 18446744073709551616 →
    Calls Tryd.prog 26 #[.int .u64 n] w fun e w' => e = .returned (.string ⟨(decI n).toArray⟩) ∧ Below w.heap.size w w' := by
  induction k with
  | zero =>
    intro n w hk h0 h1
    omega
  | succ k ih =>
    intro n w hk h0 h1
    by_cases hs : n < 10
    · have hcv : ∀ (w : World), (convert 57 9 (.slice (some ⟨w.heap.size, 0, none⟩) 1 1)).run Tryd.prog (w.alloc (.cells #[.int .u8 (48 + n)] 5)) = .ok (.string ⟨(decI n).toArray⟩) (w.alloc (.cells #[.int .u8 (48 + n)] 5)) := fun w => by
        obtain ⟨b, hb1, hb2⟩ : ∃ b : UInt8, 48 + n = (b.toNat : Int) ∧ [b] = decI n := ⟨UInt8.ofNat (48 + n.toNat), by rw [UInt8.toNat_ofNat']; omega, by rw [decI_small h0 hs]⟩
        rw [hb1, ← hb2]
        exact run_convert_bytes_back (P := Tryd.prog) _ 57 9 5 ⟨w.heap.size, 0, none⟩ 1 [b] Tryd.underlying57 Tryd.underlying5 Tryd.underlying9 (fun j hj => by
          have : j = 0 := by simpa using hj
          subst this
          simp [Addr.add])
      clear ih hk
      go_enter Tryd.func26, Tryd.ntmps26
      go_wp2_with fail
      go_ret
      exact ⟨rfl, (Below.refl _ _).alloc (Nat.le_refl _) _⟩
    · have hl1 := decI_len (n := n / 10) (by omega) (by omega)
      have hl2 := decI_len (n := n % 10) (by omega) (by omega)
      obtain ⟨a1, b1, e1⟩ : ∃ a b : List UInt8, a = decI (n / 10) ∧ b = decI (n % 10) := ⟨_, _, rfl, rfl⟩
      have i1 := fun w => ih (n / 10) w (by omega) (by omega) (by omega)
      have i2 := fun w => ih (n % 10) w (by omega) (by omega) (by omega)
      have hfin := decI_big (n := n) (by omega)
      rw [← e1.1] at hl1 i1 hfin; rw [← e1.2] at hl2 i2 hfin
      have I1 := Lib.hid i1; have I2 := Lib.hid i2; have HF := Lib.hid hfin
      clear e1 i1 i2 hfin ih
      obtain ⟨_, hl1⟩ := hl1; obtain ⟨_, hl2⟩ := hl2
      go_enter Tryd.func26, Tryd.ntmps26
      go_wp2_with fail
      refine (I1.out _).mono ?_
      rintro e w1 ⟨rfl, hb1⟩
      go_wp2_with fail
      refine (I2.out _).mono ?_
      rintro e w2 ⟨rfl, hb2⟩
      go_wp2_with fail
      go_ret
      refine ⟨?_, hb1.trans (hb2.mono hb1.size)⟩
      rw [HF.out]
      exact ret_str (by rw [ByteArray.mk_append_mk])

/-- the reference's Text -/
theorem rtextI (n : Int) (h0 : 0 ≤ n) (h : n < 18446744073709551616) (w : World) :
    Calls Tryd.prog 26 #[.int .u64 n] w fun e w' => e = .returned (.string ⟨(decI n).toArray⟩) ∧ Below w.heap.size w w' :=
  rtext_k (n.toNat + 1) n w (by omega) h0 h
end Go.Proofs.YtjfkfnlnjklcdaaDoor
