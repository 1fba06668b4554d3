/- StatsSums: the walk. -/
import Derived.Test.YtjfkfnlnjklcdaaDoorResW
import Derived.Test.YtjfkfnlnjklcdaaDoorSumLaw
import Derived.Test.YtjfkfnlnjklcdaaDoorLineWords
import Derived.Test.YtjfkfnlnjklcdaaDoorSplit
import Derived.Test.YtjfkfnlnjklcdaaDoorNumsW
namespace Go.Proofs.YtjfkfnlnjklcdaaDoor
open Go.RowKit

/-- what the walks read of the program's variables -/
structure EnvW (w : World) : Prop where
  env : Env w
  mx : ∃ m, w.cell? ⟨7, 0, none⟩ = some (.int .i64 m)
theorem EnvW.below {w w' : World} (h : EnvW w) (hb : Below w.heap.size w w') : EnvW w' := by
  obtain ⟨m, hm⟩ := h.mx
  exact ⟨h.env.below hb, m, (hb.cell (p := ⟨7, 0, none⟩) (lt_of_cell hm)).trans hm⟩

theorem lineL_len (k : Nat) (n : Int) (h0 : 0 ≤ n) (h1 : n < 18446744073709551616) : 3 ≤ (lineL (nameL k) n).length ∧ (lineL (nameL k) n).length ≤ 100000 := by
  have h2 := nameL_len k
  have h3 := decI_len h0 h1
  unfold lineL
  simp only [List.length_append, List.length_cons, List.length_nil]
  omega

set_option maxHeartbeats 1000000 in
theorem count18 (k : Nat) (hk : k < 18) (n : Int) (h0 : 0 ≤ n) (h1 : n < 18446744073709551616) (q c : Nat) (w : World) (he : EnvW w) (hc : w.cell? ⟨q, k, none⟩ = some (.string ⟨(lineL (nameL k) n).toArray⟩)) :
    Calls Tryd.prog 33 #[.slice (some ⟨q, 0, none⟩) 18 c, .int .i64 k] w fun e w' => e = .returned (.int .u64 n) ∧ Below w.heap.size w w' := by
  obtain ⟨m, hm⟩ := he.mx
  have hl := lineL_len k n h0 h1
  obtain ⟨s, hs⟩ : ∃ s, s = lineL (nameL k) n := ⟨_, rfl⟩
  have hw3 : wordsF (s.length + 1) s = [[83, 84, 65, 84], nameL k, decI n] := by
    rw [hs, show (lineL (nameL k) n).length + 1 = ((lineL (nameL k) n).length - 3) + 4 by omega]; exact line_words k hk n _
  rw [← hs] at hc hl
  have hS := split_any s hl.2 m w hm
  rw [hw3] at hS
  have HS := Lib.hid hS; have HE := Lib.hid hs; have HM := Lib.hid hm
  have hd := decI_len h0 h1
  obtain ⟨d, hd'⟩ : ∃ d, d = decI n := ⟨_, rfl⟩
  have hP := fun w => parse (decI n) (by omega) w
  have hpv : parseR (decI n) = .tuple #[.int .u64 n, .bool true] := by
    unfold parseR decI; rw [parseV_dec _ (by omega)]; show Value.tuple #[.int .u64 ((n.toNat : Nat) : Int), .bool true] = _; rw [Int.toNat_of_nonneg h0]
  rw [hpv] at hP
  rw [← hd'] at hP
  have HP := Lib.hid hP; have HD := Lib.hid hd'
  clear hw3 hS hs hm hl hd hd' hP hpv
  have hk' : (k : Int) < 18 := by omega
  have hk0 : (0 : Int) ≤ (k : Int) := by omega
  go_enter Tryd.func33, Tryd.ntmps33
  go_wp2_with fail
  refine HS.out.mono ?_
  rintro e w1 ⟨v, rfl, ho, hb⟩
  rw [← HD.out] at ho
  obtain ⟨g, cap, rfl⟩ := ownsRow_succ (k := 2) ho
  have hc2 : w1.cell? ⟨g, 2, none⟩ = some (.string ⟨d.toArray⟩) := (ho.cellAt 2 (by simp)).trans rfl
  clear ho hc
  go_wp2_with fail
  refine (HP.out w1 (he.below hb).env).mono ?_
  rintro e w2 ⟨rfl, hb2⟩
  go_wp2_with fail
  go_ret
  exact ⟨rfl, hb.trans (hb2.mono hb.size)⟩

/-- the law's own counts -/
def nums8 (M : Nat → Int) : Array Value := #[.int .u64 (M 0), .int .u64 (M 1), .int .u64 (M 2), .int .u64 (M 3), .int .u64 (M 4), .int .u64 (M 5), .int .u64 (M 6), .int .u64 (M 7)]
theorem nums8_get (M : Nat → Int) (p : Nat) (h : p < 8) : (nums8 M)[p]? = some (.int .u64 (M p)) := by
  have : p = 0 ∨ p = 1 ∨ p = 2 ∨ p = 3 ∨ p = 4 ∨ p = 5 ∨ p = 6 ∨ p = 7 := by omega
  rcases this with rfl | rfl | rfl | rfl | rfl | rfl | rfl | rfl <;> rfl
theorem nums8_set (M : Nat → Int) (p : Nat) (h : p < 8) (v : Int) : (nums8 M).setIfInBounds p (.int .u64 v) = nums8 (fun i : Nat => if (i : Int) = (p : Int) then v else M i) := by
  have : p = 0 ∨ p = 1 ∨ p = 2 ∨ p = 3 ∨ p = 4 ∨ p = 5 ∨ p = 6 ∨ p = 7 := by omega
  rcases this with rfl | rfl | rfl | rfl | rfl | rfl | rfl | rfl <;> rfl
theorem tally_on (M : Nat → Int) (op st : Int) (h : 1 ≤ st ∧ st ≤ 12 ∧ 0 ≤ op ∧ op ≤ 7) : tally op st M = fun i : Nat => if (i : Int) = op then M i + 1 else M i := if_pos h
theorem tally_off (M : Nat → Int) (op st : Int) (h : ¬ (1 ≤ st ∧ st ≤ 12 ∧ 0 ≤ op ∧ op ≤ 7)) : tally op st M = M := if_neg h
theorem Sums.zero : Sums 0 zeroN zeroN := ⟨fun _ => ⟨Int.le_refl _, Int.le_refl _⟩, fun _ => ⟨Int.le_refl _, Int.le_refl _⟩, rfl, rfl, rfl, Int.le_refl _, Int.le_refl _, rfl, Int.le_refl _, rfl, rfl⟩
end Go.Proofs.YtjfkfnlnjklcdaaDoor
