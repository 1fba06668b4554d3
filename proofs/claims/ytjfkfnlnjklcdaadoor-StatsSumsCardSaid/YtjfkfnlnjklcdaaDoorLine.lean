/- One line of a report, and the rows of texts that both reports make. -/
import Derived.Test.YtjfkfnlnjklcdaaDoorRText
import Derived.Test.YtjfkfnlnjklcdaaDoorStatA
namespace Go.Proofs.YtjfkfnlnjklcdaaDoor
open Go.Shelf Go.RowKit Go.Lib

/-- a report's line -/
def lineL (nm : List UInt8) (n : Int) : List UInt8 := [83, 84, 65, 84, 32] ++ nm ++ [32] ++ decI n

theorem line (nm : List UInt8) (hn : nm.length ≤ 1000) (n : Int) (h0 : 0 ≤ n) (h : n < 18446744073709551616) (w : World) (htab : Pow w) :
    Calls Tryd.prog 36 #[.string ⟨nm.toArray⟩, .int .u64 n] w fun e w' => e = .returned (.string ⟨(lineL nm n).toArray⟩) ∧ Below w.heap.size w w' := by
  have hl := decI_len h0 h
  obtain ⟨d, hd⟩ : ∃ d : List UInt8, d = decI n := ⟨_, rfl⟩
  have H := textI n h0 h w htab
  have hfin : lineL nm n = [83, 84, 65, 84, 32] ++ nm ++ [32] ++ decI n := rfl
  rw [← hd] at hl H hfin
  have H1 := Lib.hid H; have HF := Lib.hid hfin
  clear hd H hfin
  obtain ⟨_, hl⟩ := hl
  go_enter Tryd.func36, Tryd.ntmps36
  go_wp2_with fail
  refine (H1.out).mono ?_
  rintro e w1 ⟨rfl, hb1⟩
  go_wp2_with fail
  go_ret
  refine ⟨?_, hb1⟩
  rw [HF.out]
  exact ret_str (by simp only [ByteArray.mk_append_mk])
end Go.Proofs.YtjfkfnlnjklcdaaDoor
