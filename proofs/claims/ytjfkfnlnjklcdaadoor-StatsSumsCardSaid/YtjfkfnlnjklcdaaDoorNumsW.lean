/- NumsParses and NumsTexts: the walks. -/
import Derived.Test.YtjfkfnlnjklcdaaDoorRNums
namespace Go.Proofs.YtjfkfnlnjklcdaaDoor
open Go.Shelf Go.RowKit

theorem parses_walk (l : List UInt8) (hl : l.length ≤ 9223372036854775807) (w : World) (he : Env w) :
    Calls Tryd.prog 5 #[.string ⟨l.toArray⟩] w fun e w' => e = .returned (.bool true) ∧ Below w.heap.size w w' := by
  have P := fun w he => parse l hl w he
  have R := fun w => rparse l hl w
  unfold parseR at P R
  obtain ⟨n, hn⟩ : ∃ n : Int, n = (((parseV l).getD 0 : Nat) : Int) := ⟨_, rfl⟩
  obtain ⟨b, hb⟩ : ∃ b, b = (parseV l).isSome := ⟨_, rfl⟩
  rw [← hn, ← hb] at P R
  have HP := Lib.hid P; have HR := Lib.hid R
  clear P R hn hb
  go_enter Tryd.func5, Tryd.ntmps5
  go_wp2_with fail
  refine (nshown w he).mono ?_
  rintro e w1 ⟨rfl, b1⟩
  have he1 := he.below b1
  go_wp2_with fail
  refine (HP.out _ he1).mono ?_
  rintro e w2 ⟨rfl, b2⟩
  go_wp2_with fail
  refine (HR.out _).mono ?_
  rintro e w3 ⟨rfl, rfl⟩
  go_wp2_with fail
  go_ret
  exact ⟨rfl, b1.trans (b2.mono b1.size)⟩

theorem texts_walk (n : Int) (h0 : 0 ≤ n) (h1 : n < 18446744073709551616) (w : World) (he : Env w) :
    Calls Tryd.prog 6 #[.int .u64 n] w fun e w' => e = .returned (.bool true) ∧ Below w.heap.size w w' := by
  have T := fun w htab => textI n h0 h1 w htab
  have R := fun w => rtextI n h0 h1 w
  obtain ⟨d, hd⟩ : ∃ d, d = decI n := ⟨_, rfl⟩
  rw [← hd] at T R
  have HT := Lib.hid T; have HR := Lib.hid R
  clear T R hd
  go_enter Tryd.func6, Tryd.ntmps6
  go_wp2_with fail
  refine (nshown w he).mono ?_
  rintro e w1 ⟨rfl, b1⟩
  have he1 := he.below b1
  go_wp2_with fail
  refine (HT.out _ he1.pow).mono ?_
  rintro e w2 ⟨rfl, b2⟩
  go_wp2_with fail
  refine (HR.out _).mono ?_
  rintro e w3 ⟨rfl, b3⟩
  go_wp2_with fail
  go_ret
  exact ⟨rfl, b1.trans ((b2.mono b1.size).trans (b3.mono (Nat.le_trans b1.size b2.size)))⟩
end Go.Proofs.YtjfkfnlnjklcdaaDoor
