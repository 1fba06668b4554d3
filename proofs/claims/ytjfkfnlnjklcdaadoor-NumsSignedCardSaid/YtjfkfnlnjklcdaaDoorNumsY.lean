/- NumsSigned: the walk. -/
import Derived.Test.YtjfkfnlnjklcdaaDoorRSigned
namespace Go.Proofs.YtjfkfnlnjklcdaaDoor
open Go.Shelf Go.RowKit

theorem signed_walk (l : List UInt8) (hl : l.length ≤ 9223372036854775807) (w : World) (he : Env w) :
    Calls Tryd.prog 10 #[.string ⟨l.toArray⟩] w fun e w' => e = .returned (.bool true) ∧ Below w.heap.size w w' := by
  have P := fun w he => signed l hl w he
  have R := fun w => rsigned l hl w
  unfold signedR at P R
  obtain ⟨n, hn⟩ : ∃ n : Int, n = (signedV l).getD 0 := ⟨_, rfl⟩
  obtain ⟨b, hb⟩ : ∃ b, b = (signedV l).isSome := ⟨_, rfl⟩
  rw [← hn, ← hb] at P R
  have HP := Lib.hid P; have HR := Lib.hid R
  clear P R hn hb
  go_enter Tryd.func10, Tryd.ntmps10
  go_wp2_with fail
  refine (nshown w he).mono ?_
  rintro e w1 ⟨rfl, b1⟩
  have he1 := he.below b1
  go_wp2_with fail
  refine (HP.out _ he1).mono ?_
  rintro e w2 ⟨rfl, b2⟩
  go_wp2_with fail
  refine (HR.out _).mono ?_
  rintro e w3 ⟨rfl, rfl⟩
  go_wp2_with fail
  go_ret
  exact ⟨rfl, b1.trans (b2.mono b1.size)⟩
end Go.Proofs.YtjfkfnlnjklcdaaDoor
