/- The reference's text of a number. -/
import Derived.Test.YtlaagebdbcmckaaGreatDoorBE
namespace Go.Proofs.YtlaagebdbcmckaaGreatDoor
set_option linter.unusedSimpArgs false
set_option linter.unusedVariables false
open Go.Shelf Go.RowKit Go.Sort Go.Lib


set_option maxHeartbeats 1000000 in
theorem rtext_k (k : Nat) : ∀ (n : Int) (w : World), n.toNat < k → 0 ≤ n → n < 18446744073709551616 →
    Calls Tryz.prog 40 #[.int .u64 n] w fun e w' => e = .returned (.string ⟨(decI n).toArray⟩) ∧ Below w.heap.size w w' := by
  induction k with
  | zero =>
    intro n w hk h0 h1
    omega
  | succ k ih =>
    intro n w hk h0 h1
    by_cases hs : n < 10
    · have hcv : ∀ (w : World), (convert 73 9 (.slice (some ⟨w.heap.size, 0, none⟩) 1 1)).run Tryz.prog (w.alloc (.cells #[.int .u8 (48 + n)] 5)) = .ok (.string ⟨(decI n).toArray⟩) (w.alloc (.cells #[.int .u8 (48 + n)] 5)) := fun w => by
        obtain ⟨b, hb1, hb2⟩ : ∃ b : UInt8, 48 + n = (b.toNat : Int) ∧ [b] = decI n := ⟨UInt8.ofNat (48 + n.toNat), by rw [UInt8.toNat_ofNat']; omega, by rw [decI_small h0 hs]⟩
        rw [hb1, ← hb2]
        exact run_convert_bytes_back (P := Tryz.prog) _ 73 9 5 ⟨w.heap.size, 0, none⟩ 1 [b] Tryz.underlying73 Tryz.underlying5 Tryz.underlying9 (fun j hj => by
          have : j = 0 := by simpa using hj
          subst this
          simp [Addr.add])
      clear ih hk
      go_enter Tryz.func40, Tryz.ntmps40
      go_wp2_with fail
      go_ret
      exact ⟨rfl, (Below.refl _ _).alloc (Nat.le_refl _) _⟩
    · have hl1 := decI_len (n := n / 10) (by omega) (by omega)
      have hl2 := decI_len (n := n % 10) (by omega) (by omega)
      obtain ⟨a1, b1, e1⟩ : ∃ a b : List UInt8, a = decI (n / 10) ∧ b = decI (n % 10) := ⟨_, _, rfl, rfl⟩
      have i1 := fun w => ih (n / 10) w (by omega) (by omega) (by omega)
      have i2 := fun w => ih (n % 10) w (by omega) (by omega) (by omega)
      have hfin := decI_big (n := n) (by omega)
      rw [← e1.1] at hl1 i1 hfin; rw [← e1.2] at hl2 i2 hfin
      have I1 := Lib.hid i1; have I2 := Lib.hid i2; have HF := Lib.hid hfin
      clear e1 i1 i2 hfin ih
      obtain ⟨_, hl1⟩ := hl1; obtain ⟨_, hl2⟩ := hl2
      go_enter Tryz.func40, Tryz.ntmps40
      go_wp2_with fail
      refine (I1.out _).mono ?_
      rintro e w1 ⟨rfl, hb1⟩
      go_wp2_with fail
      refine (I2.out _).mono ?_
      rintro e w2 ⟨rfl, hb2⟩
      go_wp2_with fail
      go_ret
      refine ⟨?_, hb1.trans (hb2.mono hb1.size)⟩
      rw [HF.out]
      exact ret_str (by rw [ByteArray.mk_append_mk])

/-- the reference's Text -/
theorem rtextI (n : Int) (h0 : 0 ≤ n) (h : n < 18446744073709551616) (w : World) :
    Calls Tryz.prog 40 #[.int .u64 n] w fun e w' => e = .returned (.string ⟨(decI n).toArray⟩) ∧ Below w.heap.size w w' :=
  rtext_k (n.toNat + 1) n w (by omega) h0 h
end Go.Proofs.YtlaagebdbcmckaaGreatDoor
