/- Counting: a new count and a reset; what must be in any case. -/
import Derived.Test.YtjfkfnlnjklcdaaDoorStatJ
import Derived.Test.YtjfkfnlnjklcdaaDoorSame
namespace Go.Proofs.YtjfkfnlnjklcdaaDoor
open Go.RowKit

def zeroN : Nat → Int := fun _ => 0
theorem zeroN_rng : Rng zeroN := fun _ => ⟨by unfold zeroN; omega, by unfold zeroN; omega⟩

def zeros18 : Array Value := #[.int .u64 0, .int .u64 0, .int .u64 0, .int .u64 0, .int .u64 0, .int .u64 0, .int .u64 0, .int .u64 0, .int .u64 0, .int .u64 0, .int .u64 0, .int .u64 0, .int .u64 0, .int .u64 0, .int .u64 0, .int .u64 0, .int .u64 0, .int .u64 0]
theorem zeros18_one : (zeros18.all fun x => x.oneCell') = true := by kernel_rfl
theorem zeros18_eq : zeros18 = nums zeroN := by kernel_rfl
theorem new (w : World) : Calls Tryd.prog 15 #[] w fun e w' => e = .returned (.pointer (some ⟨w.heap.size, 0, none⟩)) ∧ Blk w' w.heap.size 62 (nums zeroN) ∧ Below w.heap.size w w' := by
  go_enter Tryd.func15, Tryd.ntmps15
  go_wp2
  go_ret
  exact ⟨rfl, (Blk.new w _ _).to zeros18_eq, (Below.refl _ _).alloc (Nat.le_refl _) _⟩

theorem sizeStats : (Tryd.prog.info? 62).map (·.size) = some zeros18.size := by kernel_rfl

theorem reset (g : Nat) (N : Nat → Int) (w : World) (hb : Blk w g 62 (nums N)) :
    Calls Tryd.prog 18 #[.pointer (some ⟨g, 0, none⟩)] w fun e w' => e = .returned (.tuple #[]) ∧ Blk w' g 62 (nums zeroN) ∧ Upd (One g) w w' := by
  have HB := Lib.hid hb; clear hb
  go_enter Tryd.func18, Tryd.ntmps18
  go_wp2_with (refine wpList_store_row rfl 62 _ _ rfl g zeros18 rfl rfl 62 (nums N) HB.out sizeStats (by simp [nums, zeros18]) zeros18_one ?_)
  go_end0
  exact ⟨rfl, (HB.out.setRow _).to zeros18_eq, (Upd.refl (One g) w).setRow (fun _ => rfl) _⟩

/-- the other fields of a command, of an answer, at their zero values -/
def cmd0 (_ : Int) : Rest := fun k => if k = 2 then .string ⟨#[]⟩ else if k = 3 then .string ⟨#[]⟩ else if k = 4 then .int .u32 0 else if k = 6 then .bool false else if k = 7 then .int .u64 0 else if k = 9 ∨ k = 10 then .int .u64 0 else if k = 12 ∨ k = 15 then .bool false else .int .i64 0
def ans0 : Rest := fun k => if k = 1 ∨ k = 3 then .string ⟨#[]⟩ else if k = 2 then .int .u32 0 else if k = 5 ∨ k = 9 then .int .u64 0 else if k = 4 ∨ k = 6 then .int .i64 0 else .bool false
/-- what must be in any case: true -/
theorem shown (w : World) (htab : Pow w) :
    Calls Tryd.prog 14 #[] w fun e w' => e = .returned (.bool true) ∧ Below w.heap.size w w' := by
  go_enter Tryd.func14, Tryd.ntmps14
  go_wp2_with fail
  refine (new w).mono ?_
  rintro e w1 ⟨rfl, b1, u1⟩
  go_wp2_with fail
  refine (count _ zeroN zeroN_rng 1 1 false false 0 (cmd0 1) ans0 w1 b1).mono ?_
  rintro e w2 ⟨rfl, b2, u2⟩
  go_wp2_with fail
  refine (count _ _ (step_rng zeroN_rng 1 1 0 false false) 2 2 false false 2 (cmd0 2) ans0 w2 b2).mono ?_
  rintro e w3 ⟨rfl, b3, u3⟩
  have hN := step_rng (step_rng zeroN_rng 1 1 0 false false) 2 2 2 false false
  have bw1 := u1
  have hp1 := u1.size
  have hu3 : Upd Non w w3 := (((Upd.refl Non w).below u1).trans u2 (fun i hi h => by unfold One at h; omega)).trans u3 (fun i hi h => by unfold One at h; omega)
  go_wp2_with fail
  refine (lines _ _ hN w3 b3 (htab.below hu3.to_below)).mono ?_
  rintro e w4 ⟨v, rfl, hown, u4⟩
  obtain ⟨a, c, rfl, hl⟩ := txts_own (l := linesL (step 2 2 2 false false (step 1 1 0 false false zeroN)) 18) (v := v) hown
  obtain ⟨g0, rfl, h0, _⟩ := hl 0 _ (linesL_get _ 18 0 (by omega))
  obtain ⟨g1, e1, h4, _⟩ := hl 4 _ (linesL_get _ 18 4 (by omega))
  obtain ⟨g2, e2, h17, _⟩ := hl 17 _ (linesL_get _ 18 17 (by omega))
  cases e1; cases e2
  have s0 : (lineL (nameL 0) (step 2 2 2 false false (step 1 1 0 false false zeroN) 0)).toArray = #[83, 84, 65, 84, 32, 99, 109, 100, 95, 103, 101, 116, 32, 49] := by decide +kernel
  have s4 : (lineL (nameL 4) (step 2 2 2 false false (step 1 1 0 false false zeroN) 4)).toArray = #[83, 84, 65, 84, 32, 103, 101, 116, 95, 104, 105, 116, 115, 32, 49] := by decide +kernel
  have s17 : (lineL (nameL 17) (step 2 2 2 false false (step 1 1 0 false false zeroN) 17)).toArray = #[83, 84, 65, 84, 32, 101, 118, 105, 99, 116, 105, 111, 110, 115, 32, 50] := by decide +kernel
  rw [s0] at h0; rw [s4] at h4; rw [s17] at h17
  clear s0 s4 s17 hl
  go_wp2_with fail
  go_ret
  exact ⟨rfl, hu3.to_below.trans (u4.mono hu3.size)⟩
end Go.Proofs.YtjfkfnlnjklcdaaDoor
