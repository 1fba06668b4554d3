/- Counting: stats.Count and its reference do the same to their eighteen numbers. -/
import Derived.Test.YtjfkfnlnjklcdaaDoorStatB
namespace Go.Proofs.YtjfkfnlnjklcdaaDoor
open Go.RowKit

theorem bumps_app (N : Nat → Int) (a b : List Nat) : bumps N (a ++ b) = bumps (bumps N a) b := by unfold bumps; rw [List.foldl_append]
theorem first_two (a b : Int) (i j : Nat) (st : Int) (h : a ≠ b) : first [(a, i), (b, j)] st = opt (st == a) i ++ opt (st == b) j := by
  unfold first opt
  by_cases h1 : st = a
  · subst h1; simp [h]
  · by_cases h2 : st = b
    · subst h2; simp [Ne.symm h1, h1]
    · have g1 : ¬ a = st := fun e => h1 e.symm
      have g2 : ¬ b = st := fun e => h2 e.symm
      simp [h1, h2, g1, g2]
theorem first_store (st : Int) : first lStore st = opt (st == 2) 12 ++ opt (st == 4) 13 ++ opt (st == 5) 14 := by
  unfold first opt lStore
  by_cases h1 : st = 2
  · subst h1; rfl
  · by_cases h2 : st = 4
    · subst h2; rfl
    · by_cases h3 : st = 5
      · subst h3; rfl
      · have g1 : ¬ 2 = st := fun e => h1 e.symm
        have g2 : ¬ 4 = st := fun e => h2 e.symm
        have g3 : ¬ 5 = st := fun e => h3 e.symm
        simp [h1, h2, h3, g1, g2, g3]
theorem get_two (st : Int) : [0, if st = 1 then 4 else 5] = [0] ++ opt (st == 1) 4 ++ opt (st != 1) 5 := by
  unfold opt
  by_cases h : st = 1
  · subst h; rfl
  · simp [h]

set_option maxHeartbeats 2000000 in
theorem rcount_get_a (g : Nat) (N : Nat → Int) (st : Int) (cas : Bool) (down : Bool) (lost : Int) (x y : Rest) (w : World) (hb : Blk w g 31 (nums N)) (hs1 : 1 ≤ st) (hs2 : st ≤ 12) (hl : 0 < lost)  :
    Calls Tryd.prog 17 #[.pointer (some ⟨g, 0, none⟩), cmdV 1 cas down x, ansV st y, .int .i64 lost] w fun e w' =>
      e = .returned (.tuple #[]) ∧ Blk w' g 31 (nums (bumps (evs N lost) (hits 1 st cas down))) ∧ Upd (One g) w w' := by
  have hh : hits 1 st cas down = [0] ++ opt (st == 1) 4 ++ opt (st != 1) 5 := by rw [← get_two]; simp [hits]
  have HH := Lib.hid hh; clear hh
  have c17 := old_cell hb 17 (by omega)
  have f17 := hb.frozen 17
  have hg := hb.lt
  have hg0 : g ≠ w.heap.size := by omega
  have hg1 : g ≠ w.heap.size + 1 := by omega
  have hg2 : w.heap.size ≠ g := by omega
  have hg3 : w.heap.size + 1 ≠ g := by omega
  unfold cmdV ansV
  go_enter Tryd.func17, Tryd.ntmps17
  go_wp2_with fail
  go_region
  go_wp2_with fail
  have b0 : Blk ((((w.setCell ⟨g, 17, none⟩ (.int .u64 (IntKind.u64.wrap (N 17 + IntKind.u64.wrap lost)))).alloc (.cells #[.int .i64 1, x 1, x 2, x 3, x 4, x 5, x 6, x 7, .bool cas, x 9, x 10, .bool down, x 12, x 13, x 14, x 15] 35)).alloc (.cells #[.int .i64 st, y 1, y 2, y 3, y 4, y 5, y 6, y 7, y 8, y 9, y 10, y 11, y 12] 39)).drew) g 31 (nums (evs N lost)) := Blk.drew (((hb.lost lost hl _ rfl).alloc _).alloc _)
  have u0 : Upd (One g) w ((((w.setCell ⟨g, 17, none⟩ (.int .u64 (IntKind.u64.wrap (N 17 + IntKind.u64.wrap lost)))).alloc (.cells #[.int .i64 1, x 1, x 2, x 3, x 4, x 5, x 6, x 7, .bool cas, x 9, x 10, .bool down, x 12, x 13, x 14, x 15] 35)).alloc (.cells #[.int .i64 st, y 1, y 2, y 3, y 4, y 5, y 6, y 7, y 8, y 9, y 10, y 11, y 12] 39)).drew) := by repeat (first | exact Upd.refl _ _ | refine Upd.drew ?_ | refine Upd.alloc ?_ _ | refine Upd.setOne ?_ _ _)
  have a0 : Blk ((((w.setCell ⟨g, 17, none⟩ (.int .u64 (IntKind.u64.wrap (N 17 + IntKind.u64.wrap lost)))).alloc (.cells #[.int .i64 1, x 1, x 2, x 3, x 4, x 5, x 6, x 7, .bool cas, x 9, x 10, .bool down, x 12, x 13, x 14, x 15] 35)).alloc (.cells #[.int .i64 st, y 1, y 2, y 3, y 4, y 5, y 6, y 7, y 8, y 9, y 10, y 11, y 12] 39)).drew) (w.heap.size + 1) 39 #[.int .i64 st, y 1, y 2, y 3, y 4, y 5, y 6, y 7, y 8, y 9, y 10, y 11, y 12] := Blk.drew (Blk.new_at _ _ _ _ (by simp [World.setCell]))
  have k0 : Blk ((((w.setCell ⟨g, 17, none⟩ (.int .u64 (IntKind.u64.wrap (N 17 + IntKind.u64.wrap lost)))).alloc (.cells #[.int .i64 1, x 1, x 2, x 3, x 4, x 5, x 6, x 7, .bool cas, x 9, x 10, .bool down, x 12, x 13, x 14, x 15] 35)).alloc (.cells #[.int .i64 st, y 1, y 2, y 3, y 4, y 5, y 6, y 7, y 8, y 9, y 10, y 11, y 12] 39)).drew) w.heap.size 35 #[.int .i64 1, x 1, x 2, x 3, x 4, x 5, x 6, x 7, .bool cas, x 9, x 10, .bool down, x 12, x 13, x 14, x 15] := Blk.drew ((Blk.new_at _ _ _ _ (by simp [World.setCell])).alloc _)
  generalize (((w.setCell ⟨g, 17, none⟩ (.int .u64 (IntKind.u64.wrap (N 17 + IntKind.u64.wrap lost)))).alloc (.cells #[.int .i64 1, x 1, x 2, x 3, x 4, x 5, x 6, x 7, .bool cas, x 9, x 10, .bool down, x 12, x 13, x 14, x 15] 35)).alloc (.cells #[.int .i64 st, y 1, y 2, y 3, y 4, y 5, y 6, y 7, y 8, y 9, y 10, y 11, y 12] 39)).drew = W at b0 u0 a0 k0 ⊢
  clear c17 f17
  refine (ref_one g (evs N lost) 0 (by decide) true W b0).mono ?_
  rintro e W1 ⟨rfl, b1, v1⟩
  have u1 := u0.same v1
  have a1 := a0.upd v1 hg3
  have k1 := k0.upd v1 hg2
  have ca1 : W1.cell? ⟨w.heap.size + 1, 0, none⟩ = some (.int .i64 st) := a1.cell 0
  have ck1 : W1.cell? ⟨w.heap.size, 8, none⟩ = some (.bool cas) := k1.cell 8
  have cd1 : W1.cell? ⟨w.heap.size, 11, none⟩ = some (.bool down) := k1.cell 11
  go_wp2_with fail
  refine (ref_one g (bumps (evs N lost) (opt true 0)) 4 (by decide) (st == 1) W1 b1).mono ?_
  rintro e W2 ⟨rfl, b2, v2⟩
  have u2 := u1.same v2
  have a2 := a1.upd v2 hg3
  have k2 := k1.upd v2 hg2
  have ca2 : W2.cell? ⟨w.heap.size + 1, 0, none⟩ = some (.int .i64 st) := a2.cell 0
  have ck2 : W2.cell? ⟨w.heap.size, 8, none⟩ = some (.bool cas) := k2.cell 8
  have cd2 : W2.cell? ⟨w.heap.size, 11, none⟩ = some (.bool down) := k2.cell 11
  go_wp2_with fail
  refine (ref_one g (bumps (bumps (evs N lost) (opt true 0)) (opt (st == 1) 4)) 5 (by decide) (st != 1) W2 b2).mono ?_
  rintro e W3 ⟨rfl, b3, v3⟩
  have u3 := u2.same v3
  go_wp2
  go_end0
  rw [HH.out]
  refine ⟨rfl, b3.to ?_, u3⟩
  first | rfl | (simp only [bumps_app]; done) | (simp only [bumps_app]; rfl)

set_option maxHeartbeats 2000000 in
theorem rcount_get_b (g : Nat) (N : Nat → Int) (st : Int) (cas : Bool) (down : Bool) (lost : Int) (x y : Rest) (w : World) (hb : Blk w g 31 (nums N)) (hs1 : 1 ≤ st) (hs2 : st ≤ 12) (hl : lost ≤ 0)  :
    Calls Tryd.prog 17 #[.pointer (some ⟨g, 0, none⟩), cmdV 1 cas down x, ansV st y, .int .i64 lost] w fun e w' =>
      e = .returned (.tuple #[]) ∧ Blk w' g 31 (nums (bumps (evs N lost) (hits 1 st cas down))) ∧ Upd (One g) w w' := by
  have hh : hits 1 st cas down = [0] ++ opt (st == 1) 4 ++ opt (st != 1) 5 := by rw [← get_two]; simp [hits]
  have HH := Lib.hid hh; clear hh
  have hg := hb.lt
  have hg0 : g ≠ w.heap.size := by omega
  have hg1 : g ≠ w.heap.size + 1 := by omega
  have hg2 : w.heap.size ≠ g := by omega
  have hg3 : w.heap.size + 1 ≠ g := by omega
  unfold cmdV ansV
  go_enter Tryd.func17, Tryd.ntmps17
  go_wp2_with fail
  have b0 : Blk (((w).alloc (.cells #[.int .i64 1, x 1, x 2, x 3, x 4, x 5, x 6, x 7, .bool cas, x 9, x 10, .bool down, x 12, x 13, x 14, x 15] 35)).alloc (.cells #[.int .i64 st, y 1, y 2, y 3, y 4, y 5, y 6, y 7, y 8, y 9, y 10, y 11, y 12] 39)) g 31 (nums (evs N lost)) := ((hb.to (by unfold evs; rw [if_neg (by omega)])).alloc _).alloc _
  have u0 : Upd (One g) w (((w).alloc (.cells #[.int .i64 1, x 1, x 2, x 3, x 4, x 5, x 6, x 7, .bool cas, x 9, x 10, .bool down, x 12, x 13, x 14, x 15] 35)).alloc (.cells #[.int .i64 st, y 1, y 2, y 3, y 4, y 5, y 6, y 7, y 8, y 9, y 10, y 11, y 12] 39)) := by repeat (first | exact Upd.refl _ _ | refine Upd.drew ?_ | refine Upd.alloc ?_ _ | refine Upd.setOne ?_ _ _)
  have a0 : Blk (((w).alloc (.cells #[.int .i64 1, x 1, x 2, x 3, x 4, x 5, x 6, x 7, .bool cas, x 9, x 10, .bool down, x 12, x 13, x 14, x 15] 35)).alloc (.cells #[.int .i64 st, y 1, y 2, y 3, y 4, y 5, y 6, y 7, y 8, y 9, y 10, y 11, y 12] 39)) (w.heap.size + 1) 39 #[.int .i64 st, y 1, y 2, y 3, y 4, y 5, y 6, y 7, y 8, y 9, y 10, y 11, y 12] := Blk.new_at _ _ _ _ (by simp)
  have k0 : Blk (((w).alloc (.cells #[.int .i64 1, x 1, x 2, x 3, x 4, x 5, x 6, x 7, .bool cas, x 9, x 10, .bool down, x 12, x 13, x 14, x 15] 35)).alloc (.cells #[.int .i64 st, y 1, y 2, y 3, y 4, y 5, y 6, y 7, y 8, y 9, y 10, y 11, y 12] 39)) w.heap.size 35 #[.int .i64 1, x 1, x 2, x 3, x 4, x 5, x 6, x 7, .bool cas, x 9, x 10, .bool down, x 12, x 13, x 14, x 15] := (Blk.new_at _ _ _ _ (by simp)).alloc _
  generalize ((w).alloc (.cells #[.int .i64 1, x 1, x 2, x 3, x 4, x 5, x 6, x 7, .bool cas, x 9, x 10, .bool down, x 12, x 13, x 14, x 15] 35)).alloc (.cells #[.int .i64 st, y 1, y 2, y 3, y 4, y 5, y 6, y 7, y 8, y 9, y 10, y 11, y 12] 39) = W at b0 u0 a0 k0 ⊢
  refine (ref_one g (evs N lost) 0 (by decide) true W b0).mono ?_
  rintro e W1 ⟨rfl, b1, v1⟩
  have u1 := u0.same v1
  have a1 := a0.upd v1 hg3
  have k1 := k0.upd v1 hg2
  have ca1 : W1.cell? ⟨w.heap.size + 1, 0, none⟩ = some (.int .i64 st) := a1.cell 0
  have ck1 : W1.cell? ⟨w.heap.size, 8, none⟩ = some (.bool cas) := k1.cell 8
  have cd1 : W1.cell? ⟨w.heap.size, 11, none⟩ = some (.bool down) := k1.cell 11
  go_wp2_with fail
  refine (ref_one g (bumps (evs N lost) (opt true 0)) 4 (by decide) (st == 1) W1 b1).mono ?_
  rintro e W2 ⟨rfl, b2, v2⟩
  have u2 := u1.same v2
  have a2 := a1.upd v2 hg3
  have k2 := k1.upd v2 hg2
  have ca2 : W2.cell? ⟨w.heap.size + 1, 0, none⟩ = some (.int .i64 st) := a2.cell 0
  have ck2 : W2.cell? ⟨w.heap.size, 8, none⟩ = some (.bool cas) := k2.cell 8
  have cd2 : W2.cell? ⟨w.heap.size, 11, none⟩ = some (.bool down) := k2.cell 11
  go_wp2_with fail
  refine (ref_one g (bumps (bumps (evs N lost) (opt true 0)) (opt (st == 1) 4)) 5 (by decide) (st != 1) W2 b2).mono ?_
  rintro e W3 ⟨rfl, b3, v3⟩
  have u3 := u2.same v3
  go_wp2
  go_end0
  rw [HH.out]
  refine ⟨rfl, b3.to ?_, u3⟩
  first | rfl | (simp only [bumps_app]; done) | (simp only [bumps_app]; rfl)

set_option maxHeartbeats 2000000 in
theorem rcount_set1_a (g : Nat) (N : Nat → Int) (st : Int) (down : Bool) (lost : Int) (x y : Rest) (w : World) (hb : Blk w g 31 (nums N)) (hs1 : 1 ≤ st) (hs2 : st ≤ 12) (hl : 0 < lost)  :
    Calls Tryd.prog 17 #[.pointer (some ⟨g, 0, none⟩), cmdV 2 true down x, ansV st y, .int .i64 lost] w fun e w' =>
      e = .returned (.tuple #[]) ∧ Blk w' g 31 (nums (bumps (evs N lost) (hits 2 st true down))) ∧ Upd (One g) w w' := by
  have hh : hits 2 st true down = [1] ++ opt (st == 2) 12 ++ opt (st == 4) 13 ++ opt (st == 5) 14 := by simp [hits, first_store]
  have HH := Lib.hid hh; clear hh
  have c17 := old_cell hb 17 (by omega)
  have f17 := hb.frozen 17
  have hg := hb.lt
  have hg0 : g ≠ w.heap.size := by omega
  have hg1 : g ≠ w.heap.size + 1 := by omega
  have hg2 : w.heap.size ≠ g := by omega
  have hg3 : w.heap.size + 1 ≠ g := by omega
  unfold cmdV ansV
  go_enter Tryd.func17, Tryd.ntmps17
  go_wp2_with fail
  go_region
  go_wp2_with fail
  have b0 : Blk ((((w.setCell ⟨g, 17, none⟩ (.int .u64 (IntKind.u64.wrap (N 17 + IntKind.u64.wrap lost)))).alloc (.cells #[.int .i64 2, x 1, x 2, x 3, x 4, x 5, x 6, x 7, .bool true, x 9, x 10, .bool down, x 12, x 13, x 14, x 15] 35)).alloc (.cells #[.int .i64 st, y 1, y 2, y 3, y 4, y 5, y 6, y 7, y 8, y 9, y 10, y 11, y 12] 39)).drew) g 31 (nums (evs N lost)) := Blk.drew (((hb.lost lost hl _ rfl).alloc _).alloc _)
  have u0 : Upd (One g) w ((((w.setCell ⟨g, 17, none⟩ (.int .u64 (IntKind.u64.wrap (N 17 + IntKind.u64.wrap lost)))).alloc (.cells #[.int .i64 2, x 1, x 2, x 3, x 4, x 5, x 6, x 7, .bool true, x 9, x 10, .bool down, x 12, x 13, x 14, x 15] 35)).alloc (.cells #[.int .i64 st, y 1, y 2, y 3, y 4, y 5, y 6, y 7, y 8, y 9, y 10, y 11, y 12] 39)).drew) := by repeat (first | exact Upd.refl _ _ | refine Upd.drew ?_ | refine Upd.alloc ?_ _ | refine Upd.setOne ?_ _ _)
  have a0 : Blk ((((w.setCell ⟨g, 17, none⟩ (.int .u64 (IntKind.u64.wrap (N 17 + IntKind.u64.wrap lost)))).alloc (.cells #[.int .i64 2, x 1, x 2, x 3, x 4, x 5, x 6, x 7, .bool true, x 9, x 10, .bool down, x 12, x 13, x 14, x 15] 35)).alloc (.cells #[.int .i64 st, y 1, y 2, y 3, y 4, y 5, y 6, y 7, y 8, y 9, y 10, y 11, y 12] 39)).drew) (w.heap.size + 1) 39 #[.int .i64 st, y 1, y 2, y 3, y 4, y 5, y 6, y 7, y 8, y 9, y 10, y 11, y 12] := Blk.drew (Blk.new_at _ _ _ _ (by simp [World.setCell]))
  have k0 : Blk ((((w.setCell ⟨g, 17, none⟩ (.int .u64 (IntKind.u64.wrap (N 17 + IntKind.u64.wrap lost)))).alloc (.cells #[.int .i64 2, x 1, x 2, x 3, x 4, x 5, x 6, x 7, .bool true, x 9, x 10, .bool down, x 12, x 13, x 14, x 15] 35)).alloc (.cells #[.int .i64 st, y 1, y 2, y 3, y 4, y 5, y 6, y 7, y 8, y 9, y 10, y 11, y 12] 39)).drew) w.heap.size 35 #[.int .i64 2, x 1, x 2, x 3, x 4, x 5, x 6, x 7, .bool true, x 9, x 10, .bool down, x 12, x 13, x 14, x 15] := Blk.drew ((Blk.new_at _ _ _ _ (by simp [World.setCell])).alloc _)
  generalize (((w.setCell ⟨g, 17, none⟩ (.int .u64 (IntKind.u64.wrap (N 17 + IntKind.u64.wrap lost)))).alloc (.cells #[.int .i64 2, x 1, x 2, x 3, x 4, x 5, x 6, x 7, .bool true, x 9, x 10, .bool down, x 12, x 13, x 14, x 15] 35)).alloc (.cells #[.int .i64 st, y 1, y 2, y 3, y 4, y 5, y 6, y 7, y 8, y 9, y 10, y 11, y 12] 39)).drew = W at b0 u0 a0 k0 ⊢
  clear c17 f17
  refine (ref_one g (evs N lost) 1 (by decide) true W b0).mono ?_
  rintro e W1 ⟨rfl, b1, v1⟩
  have u1 := u0.same v1
  have a1 := a0.upd v1 hg3
  have k1 := k0.upd v1 hg2
  have ca1 : W1.cell? ⟨w.heap.size + 1, 0, none⟩ = some (.int .i64 st) := a1.cell 0
  have ck1 : W1.cell? ⟨w.heap.size, 8, none⟩ = some (.bool true) := k1.cell 8
  have cd1 : W1.cell? ⟨w.heap.size, 11, none⟩ = some (.bool down) := k1.cell 11
  go_wp2_with fail
  refine (ref_one g (bumps (evs N lost) (opt true 1)) 12 (by decide) (st == 2) W1 b1).mono ?_
  rintro e W2 ⟨rfl, b2, v2⟩
  have u2 := u1.same v2
  have a2 := a1.upd v2 hg3
  have k2 := k1.upd v2 hg2
  have ca2 : W2.cell? ⟨w.heap.size + 1, 0, none⟩ = some (.int .i64 st) := a2.cell 0
  have ck2 : W2.cell? ⟨w.heap.size, 8, none⟩ = some (.bool true) := k2.cell 8
  have cd2 : W2.cell? ⟨w.heap.size, 11, none⟩ = some (.bool down) := k2.cell 11
  go_wp2_with fail
  refine (ref_one g (bumps (bumps (evs N lost) (opt true 1)) (opt (st == 2) 12)) 13 (by decide) (st == 4) W2 b2).mono ?_
  rintro e W3 ⟨rfl, b3, v3⟩
  have u3 := u2.same v3
  have a3 := a2.upd v3 hg3
  have k3 := k2.upd v3 hg2
  have ca3 : W3.cell? ⟨w.heap.size + 1, 0, none⟩ = some (.int .i64 st) := a3.cell 0
  have ck3 : W3.cell? ⟨w.heap.size, 8, none⟩ = some (.bool true) := k3.cell 8
  have cd3 : W3.cell? ⟨w.heap.size, 11, none⟩ = some (.bool down) := k3.cell 11
  go_wp2_with fail
  refine (ref_one g (bumps (bumps (bumps (evs N lost) (opt true 1)) (opt (st == 2) 12)) (opt (st == 4) 13)) 14 (by decide) (st == 5) W3 b3).mono ?_
  rintro e W4 ⟨rfl, b4, v4⟩
  have u4 := u3.same v4
  go_wp2
  go_end0
  rw [HH.out]
  refine ⟨rfl, b4.to ?_, u4⟩
  first | rfl | (simp only [bumps_app]; done) | (simp only [bumps_app]; rfl)

set_option maxHeartbeats 2000000 in
theorem rcount_set1_b (g : Nat) (N : Nat → Int) (st : Int) (down : Bool) (lost : Int) (x y : Rest) (w : World) (hb : Blk w g 31 (nums N)) (hs1 : 1 ≤ st) (hs2 : st ≤ 12) (hl : lost ≤ 0)  :
    Calls Tryd.prog 17 #[.pointer (some ⟨g, 0, none⟩), cmdV 2 true down x, ansV st y, .int .i64 lost] w fun e w' =>
      e = .returned (.tuple #[]) ∧ Blk w' g 31 (nums (bumps (evs N lost) (hits 2 st true down))) ∧ Upd (One g) w w' := by
  have hh : hits 2 st true down = [1] ++ opt (st == 2) 12 ++ opt (st == 4) 13 ++ opt (st == 5) 14 := by simp [hits, first_store]
  have HH := Lib.hid hh; clear hh
  have hg := hb.lt
  have hg0 : g ≠ w.heap.size := by omega
  have hg1 : g ≠ w.heap.size + 1 := by omega
  have hg2 : w.heap.size ≠ g := by omega
  have hg3 : w.heap.size + 1 ≠ g := by omega
  unfold cmdV ansV
  go_enter Tryd.func17, Tryd.ntmps17
  go_wp2_with fail
  have b0 : Blk (((w).alloc (.cells #[.int .i64 2, x 1, x 2, x 3, x 4, x 5, x 6, x 7, .bool true, x 9, x 10, .bool down, x 12, x 13, x 14, x 15] 35)).alloc (.cells #[.int .i64 st, y 1, y 2, y 3, y 4, y 5, y 6, y 7, y 8, y 9, y 10, y 11, y 12] 39)) g 31 (nums (evs N lost)) := ((hb.to (by unfold evs; rw [if_neg (by omega)])).alloc _).alloc _
  have u0 : Upd (One g) w (((w).alloc (.cells #[.int .i64 2, x 1, x 2, x 3, x 4, x 5, x 6, x 7, .bool true, x 9, x 10, .bool down, x 12, x 13, x 14, x 15] 35)).alloc (.cells #[.int .i64 st, y 1, y 2, y 3, y 4, y 5, y 6, y 7, y 8, y 9, y 10, y 11, y 12] 39)) := by repeat (first | exact Upd.refl _ _ | refine Upd.drew ?_ | refine Upd.alloc ?_ _ | refine Upd.setOne ?_ _ _)
  have a0 : Blk (((w).alloc (.cells #[.int .i64 2, x 1, x 2, x 3, x 4, x 5, x 6, x 7, .bool true, x 9, x 10, .bool down, x 12, x 13, x 14, x 15] 35)).alloc (.cells #[.int .i64 st, y 1, y 2, y 3, y 4, y 5, y 6, y 7, y 8, y 9, y 10, y 11, y 12] 39)) (w.heap.size + 1) 39 #[.int .i64 st, y 1, y 2, y 3, y 4, y 5, y 6, y 7, y 8, y 9, y 10, y 11, y 12] := Blk.new_at _ _ _ _ (by simp)
  have k0 : Blk (((w).alloc (.cells #[.int .i64 2, x 1, x 2, x 3, x 4, x 5, x 6, x 7, .bool true, x 9, x 10, .bool down, x 12, x 13, x 14, x 15] 35)).alloc (.cells #[.int .i64 st, y 1, y 2, y 3, y 4, y 5, y 6, y 7, y 8, y 9, y 10, y 11, y 12] 39)) w.heap.size 35 #[.int .i64 2, x 1, x 2, x 3, x 4, x 5, x 6, x 7, .bool true, x 9, x 10, .bool down, x 12, x 13, x 14, x 15] := (Blk.new_at _ _ _ _ (by simp)).alloc _
  generalize ((w).alloc (.cells #[.int .i64 2, x 1, x 2, x 3, x 4, x 5, x 6, x 7, .bool true, x 9, x 10, .bool down, x 12, x 13, x 14, x 15] 35)).alloc (.cells #[.int .i64 st, y 1, y 2, y 3, y 4, y 5, y 6, y 7, y 8, y 9, y 10, y 11, y 12] 39) = W at b0 u0 a0 k0 ⊢
  refine (ref_one g (evs N lost) 1 (by decide) true W b0).mono ?_
  rintro e W1 ⟨rfl, b1, v1⟩
  have u1 := u0.same v1
  have a1 := a0.upd v1 hg3
  have k1 := k0.upd v1 hg2
  have ca1 : W1.cell? ⟨w.heap.size + 1, 0, none⟩ = some (.int .i64 st) := a1.cell 0
  have ck1 : W1.cell? ⟨w.heap.size, 8, none⟩ = some (.bool true) := k1.cell 8
  have cd1 : W1.cell? ⟨w.heap.size, 11, none⟩ = some (.bool down) := k1.cell 11
  go_wp2_with fail
  refine (ref_one g (bumps (evs N lost) (opt true 1)) 12 (by decide) (st == 2) W1 b1).mono ?_
  rintro e W2 ⟨rfl, b2, v2⟩
  have u2 := u1.same v2
  have a2 := a1.upd v2 hg3
  have k2 := k1.upd v2 hg2
  have ca2 : W2.cell? ⟨w.heap.size + 1, 0, none⟩ = some (.int .i64 st) := a2.cell 0
  have ck2 : W2.cell? ⟨w.heap.size, 8, none⟩ = some (.bool true) := k2.cell 8
  have cd2 : W2.cell? ⟨w.heap.size, 11, none⟩ = some (.bool down) := k2.cell 11
  go_wp2_with fail
  refine (ref_one g (bumps (bumps (evs N lost) (opt true 1)) (opt (st == 2) 12)) 13 (by decide) (st == 4) W2 b2).mono ?_
  rintro e W3 ⟨rfl, b3, v3⟩
  have u3 := u2.same v3
  have a3 := a2.upd v3 hg3
  have k3 := k2.upd v3 hg2
  have ca3 : W3.cell? ⟨w.heap.size + 1, 0, none⟩ = some (.int .i64 st) := a3.cell 0
  have ck3 : W3.cell? ⟨w.heap.size, 8, none⟩ = some (.bool true) := k3.cell 8
  have cd3 : W3.cell? ⟨w.heap.size, 11, none⟩ = some (.bool down) := k3.cell 11
  go_wp2_with fail
  refine (ref_one g (bumps (bumps (bumps (evs N lost) (opt true 1)) (opt (st == 2) 12)) (opt (st == 4) 13)) 14 (by decide) (st == 5) W3 b3).mono ?_
  rintro e W4 ⟨rfl, b4, v4⟩
  have u4 := u3.same v4
  go_wp2
  go_end0
  rw [HH.out]
  refine ⟨rfl, b4.to ?_, u4⟩
  first | rfl | (simp only [bumps_app]; done) | (simp only [bumps_app]; rfl)

set_option maxHeartbeats 2000000 in
theorem rcount_set2_a (g : Nat) (N : Nat → Int) (st : Int) (down : Bool) (lost : Int) (x y : Rest) (w : World) (hb : Blk w g 31 (nums N)) (hs1 : 1 ≤ st) (hs2 : st ≤ 12) (hl : 0 < lost)  :
    Calls Tryd.prog 17 #[.pointer (some ⟨g, 0, none⟩), cmdV 2 false down x, ansV st y, .int .i64 lost] w fun e w' =>
      e = .returned (.tuple #[]) ∧ Blk w' g 31 (nums (bumps (evs N lost) (hits 2 st false down))) ∧ Upd (One g) w w' := by
  have hh : hits 2 st false down = [1] := by simp [hits]
  have HH := Lib.hid hh; clear hh
  have c17 := old_cell hb 17 (by omega)
  have f17 := hb.frozen 17
  have hg := hb.lt
  have hg0 : g ≠ w.heap.size := by omega
  have hg1 : g ≠ w.heap.size + 1 := by omega
  have hg2 : w.heap.size ≠ g := by omega
  have hg3 : w.heap.size + 1 ≠ g := by omega
  unfold cmdV ansV
  go_enter Tryd.func17, Tryd.ntmps17
  go_wp2_with fail
  go_region
  go_wp2_with fail
  have b0 : Blk ((((w.setCell ⟨g, 17, none⟩ (.int .u64 (IntKind.u64.wrap (N 17 + IntKind.u64.wrap lost)))).alloc (.cells #[.int .i64 2, x 1, x 2, x 3, x 4, x 5, x 6, x 7, .bool false, x 9, x 10, .bool down, x 12, x 13, x 14, x 15] 35)).alloc (.cells #[.int .i64 st, y 1, y 2, y 3, y 4, y 5, y 6, y 7, y 8, y 9, y 10, y 11, y 12] 39)).drew) g 31 (nums (evs N lost)) := Blk.drew (((hb.lost lost hl _ rfl).alloc _).alloc _)
  have u0 : Upd (One g) w ((((w.setCell ⟨g, 17, none⟩ (.int .u64 (IntKind.u64.wrap (N 17 + IntKind.u64.wrap lost)))).alloc (.cells #[.int .i64 2, x 1, x 2, x 3, x 4, x 5, x 6, x 7, .bool false, x 9, x 10, .bool down, x 12, x 13, x 14, x 15] 35)).alloc (.cells #[.int .i64 st, y 1, y 2, y 3, y 4, y 5, y 6, y 7, y 8, y 9, y 10, y 11, y 12] 39)).drew) := by repeat (first | exact Upd.refl _ _ | refine Upd.drew ?_ | refine Upd.alloc ?_ _ | refine Upd.setOne ?_ _ _)
  have a0 : Blk ((((w.setCell ⟨g, 17, none⟩ (.int .u64 (IntKind.u64.wrap (N 17 + IntKind.u64.wrap lost)))).alloc (.cells #[.int .i64 2, x 1, x 2, x 3, x 4, x 5, x 6, x 7, .bool false, x 9, x 10, .bool down, x 12, x 13, x 14, x 15] 35)).alloc (.cells #[.int .i64 st, y 1, y 2, y 3, y 4, y 5, y 6, y 7, y 8, y 9, y 10, y 11, y 12] 39)).drew) (w.heap.size + 1) 39 #[.int .i64 st, y 1, y 2, y 3, y 4, y 5, y 6, y 7, y 8, y 9, y 10, y 11, y 12] := Blk.drew (Blk.new_at _ _ _ _ (by simp [World.setCell]))
  have k0 : Blk ((((w.setCell ⟨g, 17, none⟩ (.int .u64 (IntKind.u64.wrap (N 17 + IntKind.u64.wrap lost)))).alloc (.cells #[.int .i64 2, x 1, x 2, x 3, x 4, x 5, x 6, x 7, .bool false, x 9, x 10, .bool down, x 12, x 13, x 14, x 15] 35)).alloc (.cells #[.int .i64 st, y 1, y 2, y 3, y 4, y 5, y 6, y 7, y 8, y 9, y 10, y 11, y 12] 39)).drew) w.heap.size 35 #[.int .i64 2, x 1, x 2, x 3, x 4, x 5, x 6, x 7, .bool false, x 9, x 10, .bool down, x 12, x 13, x 14, x 15] := Blk.drew ((Blk.new_at _ _ _ _ (by simp [World.setCell])).alloc _)
  generalize (((w.setCell ⟨g, 17, none⟩ (.int .u64 (IntKind.u64.wrap (N 17 + IntKind.u64.wrap lost)))).alloc (.cells #[.int .i64 2, x 1, x 2, x 3, x 4, x 5, x 6, x 7, .bool false, x 9, x 10, .bool down, x 12, x 13, x 14, x 15] 35)).alloc (.cells #[.int .i64 st, y 1, y 2, y 3, y 4, y 5, y 6, y 7, y 8, y 9, y 10, y 11, y 12] 39)).drew = W at b0 u0 a0 k0 ⊢
  clear c17 f17
  refine (ref_one g (evs N lost) 1 (by decide) true W b0).mono ?_
  rintro e W1 ⟨rfl, b1, v1⟩
  have u1 := u0.same v1
  have a1 := a0.upd v1 hg3
  have k1 := k0.upd v1 hg2
  have ca1 : W1.cell? ⟨w.heap.size + 1, 0, none⟩ = some (.int .i64 st) := a1.cell 0
  have ck1 : W1.cell? ⟨w.heap.size, 8, none⟩ = some (.bool false) := k1.cell 8
  have cd1 : W1.cell? ⟨w.heap.size, 11, none⟩ = some (.bool down) := k1.cell 11
  go_wp2_with fail
  refine (ref_one g (bumps (evs N lost) (opt true 1)) 12 (by decide) false W1 b1).mono ?_
  rintro e W2 ⟨rfl, b2, v2⟩
  have u2 := u1.same v2
  have a2 := a1.upd v2 hg3
  have k2 := k1.upd v2 hg2
  have ca2 : W2.cell? ⟨w.heap.size + 1, 0, none⟩ = some (.int .i64 st) := a2.cell 0
  have ck2 : W2.cell? ⟨w.heap.size, 8, none⟩ = some (.bool false) := k2.cell 8
  have cd2 : W2.cell? ⟨w.heap.size, 11, none⟩ = some (.bool down) := k2.cell 11
  go_wp2_with fail
  refine (ref_one g (bumps (bumps (evs N lost) (opt true 1)) (opt false 12)) 13 (by decide) false W2 b2).mono ?_
  rintro e W3 ⟨rfl, b3, v3⟩
  have u3 := u2.same v3
  have a3 := a2.upd v3 hg3
  have k3 := k2.upd v3 hg2
  have ca3 : W3.cell? ⟨w.heap.size + 1, 0, none⟩ = some (.int .i64 st) := a3.cell 0
  have ck3 : W3.cell? ⟨w.heap.size, 8, none⟩ = some (.bool false) := k3.cell 8
  have cd3 : W3.cell? ⟨w.heap.size, 11, none⟩ = some (.bool down) := k3.cell 11
  go_wp2_with fail
  refine (ref_one g (bumps (bumps (bumps (evs N lost) (opt true 1)) (opt false 12)) (opt false 13)) 14 (by decide) false W3 b3).mono ?_
  rintro e W4 ⟨rfl, b4, v4⟩
  have u4 := u3.same v4
  go_wp2
  go_end0
  rw [HH.out]
  refine ⟨rfl, b4.to ?_, u4⟩
  rfl

set_option maxHeartbeats 2000000 in
theorem rcount_set2_b (g : Nat) (N : Nat → Int) (st : Int) (down : Bool) (lost : Int) (x y : Rest) (w : World) (hb : Blk w g 31 (nums N)) (hs1 : 1 ≤ st) (hs2 : st ≤ 12) (hl : lost ≤ 0)  :
    Calls Tryd.prog 17 #[.pointer (some ⟨g, 0, none⟩), cmdV 2 false down x, ansV st y, .int .i64 lost] w fun e w' =>
      e = .returned (.tuple #[]) ∧ Blk w' g 31 (nums (bumps (evs N lost) (hits 2 st false down))) ∧ Upd (One g) w w' := by
  have hh : hits 2 st false down = [1] := by simp [hits]
  have HH := Lib.hid hh; clear hh
  have hg := hb.lt
  have hg0 : g ≠ w.heap.size := by omega
  have hg1 : g ≠ w.heap.size + 1 := by omega
  have hg2 : w.heap.size ≠ g := by omega
  have hg3 : w.heap.size + 1 ≠ g := by omega
  unfold cmdV ansV
  go_enter Tryd.func17, Tryd.ntmps17
  go_wp2_with fail
  have b0 : Blk (((w).alloc (.cells #[.int .i64 2, x 1, x 2, x 3, x 4, x 5, x 6, x 7, .bool false, x 9, x 10, .bool down, x 12, x 13, x 14, x 15] 35)).alloc (.cells #[.int .i64 st, y 1, y 2, y 3, y 4, y 5, y 6, y 7, y 8, y 9, y 10, y 11, y 12] 39)) g 31 (nums (evs N lost)) := ((hb.to (by unfold evs; rw [if_neg (by omega)])).alloc _).alloc _
  have u0 : Upd (One g) w (((w).alloc (.cells #[.int .i64 2, x 1, x 2, x 3, x 4, x 5, x 6, x 7, .bool false, x 9, x 10, .bool down, x 12, x 13, x 14, x 15] 35)).alloc (.cells #[.int .i64 st, y 1, y 2, y 3, y 4, y 5, y 6, y 7, y 8, y 9, y 10, y 11, y 12] 39)) := by repeat (first | exact Upd.refl _ _ | refine Upd.drew ?_ | refine Upd.alloc ?_ _ | refine Upd.setOne ?_ _ _)
  have a0 : Blk (((w).alloc (.cells #[.int .i64 2, x 1, x 2, x 3, x 4, x 5, x 6, x 7, .bool false, x 9, x 10, .bool down, x 12, x 13, x 14, x 15] 35)).alloc (.cells #[.int .i64 st, y 1, y 2, y 3, y 4, y 5, y 6, y 7, y 8, y 9, y 10, y 11, y 12] 39)) (w.heap.size + 1) 39 #[.int .i64 st, y 1, y 2, y 3, y 4, y 5, y 6, y 7, y 8, y 9, y 10, y 11, y 12] := Blk.new_at _ _ _ _ (by simp)
  have k0 : Blk (((w).alloc (.cells #[.int .i64 2, x 1, x 2, x 3, x 4, x 5, x 6, x 7, .bool false, x 9, x 10, .bool down, x 12, x 13, x 14, x 15] 35)).alloc (.cells #[.int .i64 st, y 1, y 2, y 3, y 4, y 5, y 6, y 7, y 8, y 9, y 10, y 11, y 12] 39)) w.heap.size 35 #[.int .i64 2, x 1, x 2, x 3, x 4, x 5, x 6, x 7, .bool false, x 9, x 10, .bool down, x 12, x 13, x 14, x 15] := (Blk.new_at _ _ _ _ (by simp)).alloc _
  generalize ((w).alloc (.cells #[.int .i64 2, x 1, x 2, x 3, x 4, x 5, x 6, x 7, .bool false, x 9, x 10, .bool down, x 12, x 13, x 14, x 15] 35)).alloc (.cells #[.int .i64 st, y 1, y 2, y 3, y 4, y 5, y 6, y 7, y 8, y 9, y 10, y 11, y 12] 39) = W at b0 u0 a0 k0 ⊢
  refine (ref_one g (evs N lost) 1 (by decide) true W b0).mono ?_
  rintro e W1 ⟨rfl, b1, v1⟩
  have u1 := u0.same v1
  have a1 := a0.upd v1 hg3
  have k1 := k0.upd v1 hg2
  have ca1 : W1.cell? ⟨w.heap.size + 1, 0, none⟩ = some (.int .i64 st) := a1.cell 0
  have ck1 : W1.cell? ⟨w.heap.size, 8, none⟩ = some (.bool false) := k1.cell 8
  have cd1 : W1.cell? ⟨w.heap.size, 11, none⟩ = some (.bool down) := k1.cell 11
  go_wp2_with fail
  refine (ref_one g (bumps (evs N lost) (opt true 1)) 12 (by decide) false W1 b1).mono ?_
  rintro e W2 ⟨rfl, b2, v2⟩
  have u2 := u1.same v2
  have a2 := a1.upd v2 hg3
  have k2 := k1.upd v2 hg2
  have ca2 : W2.cell? ⟨w.heap.size + 1, 0, none⟩ = some (.int .i64 st) := a2.cell 0
  have ck2 : W2.cell? ⟨w.heap.size, 8, none⟩ = some (.bool false) := k2.cell 8
  have cd2 : W2.cell? ⟨w.heap.size, 11, none⟩ = some (.bool down) := k2.cell 11
  go_wp2_with fail
  refine (ref_one g (bumps (bumps (evs N lost) (opt true 1)) (opt false 12)) 13 (by decide) false W2 b2).mono ?_
  rintro e W3 ⟨rfl, b3, v3⟩
  have u3 := u2.same v3
  have a3 := a2.upd v3 hg3
  have k3 := k2.upd v3 hg2
  have ca3 : W3.cell? ⟨w.heap.size + 1, 0, none⟩ = some (.int .i64 st) := a3.cell 0
  have ck3 : W3.cell? ⟨w.heap.size, 8, none⟩ = some (.bool false) := k3.cell 8
  have cd3 : W3.cell? ⟨w.heap.size, 11, none⟩ = some (.bool down) := k3.cell 11
  go_wp2_with fail
  refine (ref_one g (bumps (bumps (bumps (evs N lost) (opt true 1)) (opt false 12)) (opt false 13)) 14 (by decide) false W3 b3).mono ?_
  rintro e W4 ⟨rfl, b4, v4⟩
  have u4 := u3.same v4
  go_wp2
  go_end0
  rw [HH.out]
  refine ⟨rfl, b4.to ?_, u4⟩
  rfl

set_option maxHeartbeats 2000000 in
theorem rcount_touch_a (g : Nat) (N : Nat → Int) (st : Int) (cas : Bool) (down : Bool) (lost : Int) (x y : Rest) (w : World) (hb : Blk w g 31 (nums N)) (hs1 : 1 ≤ st) (hs2 : st ≤ 12) (hl : 0 < lost)  :
    Calls Tryd.prog 17 #[.pointer (some ⟨g, 0, none⟩), cmdV 4 cas down x, ansV st y, .int .i64 lost] w fun e w' =>
      e = .returned (.tuple #[]) ∧ Blk w' g 31 (nums (bumps (evs N lost) (hits 4 st cas down))) ∧ Upd (One g) w w' := by
  have hh : hits 4 st cas down = [2] ++ opt (st == 8) 15 ++ opt (st == 5) 16 := by simp [hits, lTouch, first_two]
  have HH := Lib.hid hh; clear hh
  have c17 := old_cell hb 17 (by omega)
  have f17 := hb.frozen 17
  have hg := hb.lt
  have hg0 : g ≠ w.heap.size := by omega
  have hg1 : g ≠ w.heap.size + 1 := by omega
  have hg2 : w.heap.size ≠ g := by omega
  have hg3 : w.heap.size + 1 ≠ g := by omega
  unfold cmdV ansV
  go_enter Tryd.func17, Tryd.ntmps17
  go_wp2_with fail
  go_region
  go_wp2_with fail
  have b0 : Blk ((((w.setCell ⟨g, 17, none⟩ (.int .u64 (IntKind.u64.wrap (N 17 + IntKind.u64.wrap lost)))).alloc (.cells #[.int .i64 4, x 1, x 2, x 3, x 4, x 5, x 6, x 7, .bool cas, x 9, x 10, .bool down, x 12, x 13, x 14, x 15] 35)).alloc (.cells #[.int .i64 st, y 1, y 2, y 3, y 4, y 5, y 6, y 7, y 8, y 9, y 10, y 11, y 12] 39)).drew) g 31 (nums (evs N lost)) := Blk.drew (((hb.lost lost hl _ rfl).alloc _).alloc _)
  have u0 : Upd (One g) w ((((w.setCell ⟨g, 17, none⟩ (.int .u64 (IntKind.u64.wrap (N 17 + IntKind.u64.wrap lost)))).alloc (.cells #[.int .i64 4, x 1, x 2, x 3, x 4, x 5, x 6, x 7, .bool cas, x 9, x 10, .bool down, x 12, x 13, x 14, x 15] 35)).alloc (.cells #[.int .i64 st, y 1, y 2, y 3, y 4, y 5, y 6, y 7, y 8, y 9, y 10, y 11, y 12] 39)).drew) := by repeat (first | exact Upd.refl _ _ | refine Upd.drew ?_ | refine Upd.alloc ?_ _ | refine Upd.setOne ?_ _ _)
  have a0 : Blk ((((w.setCell ⟨g, 17, none⟩ (.int .u64 (IntKind.u64.wrap (N 17 + IntKind.u64.wrap lost)))).alloc (.cells #[.int .i64 4, x 1, x 2, x 3, x 4, x 5, x 6, x 7, .bool cas, x 9, x 10, .bool down, x 12, x 13, x 14, x 15] 35)).alloc (.cells #[.int .i64 st, y 1, y 2, y 3, y 4, y 5, y 6, y 7, y 8, y 9, y 10, y 11, y 12] 39)).drew) (w.heap.size + 1) 39 #[.int .i64 st, y 1, y 2, y 3, y 4, y 5, y 6, y 7, y 8, y 9, y 10, y 11, y 12] := Blk.drew (Blk.new_at _ _ _ _ (by simp [World.setCell]))
  have k0 : Blk ((((w.setCell ⟨g, 17, none⟩ (.int .u64 (IntKind.u64.wrap (N 17 + IntKind.u64.wrap lost)))).alloc (.cells #[.int .i64 4, x 1, x 2, x 3, x 4, x 5, x 6, x 7, .bool cas, x 9, x 10, .bool down, x 12, x 13, x 14, x 15] 35)).alloc (.cells #[.int .i64 st, y 1, y 2, y 3, y 4, y 5, y 6, y 7, y 8, y 9, y 10, y 11, y 12] 39)).drew) w.heap.size 35 #[.int .i64 4, x 1, x 2, x 3, x 4, x 5, x 6, x 7, .bool cas, x 9, x 10, .bool down, x 12, x 13, x 14, x 15] := Blk.drew ((Blk.new_at _ _ _ _ (by simp [World.setCell])).alloc _)
  generalize (((w.setCell ⟨g, 17, none⟩ (.int .u64 (IntKind.u64.wrap (N 17 + IntKind.u64.wrap lost)))).alloc (.cells #[.int .i64 4, x 1, x 2, x 3, x 4, x 5, x 6, x 7, .bool cas, x 9, x 10, .bool down, x 12, x 13, x 14, x 15] 35)).alloc (.cells #[.int .i64 st, y 1, y 2, y 3, y 4, y 5, y 6, y 7, y 8, y 9, y 10, y 11, y 12] 39)).drew = W at b0 u0 a0 k0 ⊢
  clear c17 f17
  refine (ref_one g (evs N lost) 2 (by decide) true W b0).mono ?_
  rintro e W1 ⟨rfl, b1, v1⟩
  have u1 := u0.same v1
  have a1 := a0.upd v1 hg3
  have k1 := k0.upd v1 hg2
  have ca1 : W1.cell? ⟨w.heap.size + 1, 0, none⟩ = some (.int .i64 st) := a1.cell 0
  have ck1 : W1.cell? ⟨w.heap.size, 8, none⟩ = some (.bool cas) := k1.cell 8
  have cd1 : W1.cell? ⟨w.heap.size, 11, none⟩ = some (.bool down) := k1.cell 11
  go_wp2_with fail
  refine (ref_one g (bumps (evs N lost) (opt true 2)) 15 (by decide) (st == 8) W1 b1).mono ?_
  rintro e W2 ⟨rfl, b2, v2⟩
  have u2 := u1.same v2
  have a2 := a1.upd v2 hg3
  have k2 := k1.upd v2 hg2
  have ca2 : W2.cell? ⟨w.heap.size + 1, 0, none⟩ = some (.int .i64 st) := a2.cell 0
  have ck2 : W2.cell? ⟨w.heap.size, 8, none⟩ = some (.bool cas) := k2.cell 8
  have cd2 : W2.cell? ⟨w.heap.size, 11, none⟩ = some (.bool down) := k2.cell 11
  go_wp2_with fail
  refine (ref_one g (bumps (bumps (evs N lost) (opt true 2)) (opt (st == 8) 15)) 16 (by decide) (st == 5) W2 b2).mono ?_
  rintro e W3 ⟨rfl, b3, v3⟩
  have u3 := u2.same v3
  go_wp2
  go_end0
  rw [HH.out]
  refine ⟨rfl, b3.to ?_, u3⟩
  first | rfl | (simp only [bumps_app]; done) | (simp only [bumps_app]; rfl)

set_option maxHeartbeats 2000000 in
theorem rcount_touch_b (g : Nat) (N : Nat → Int) (st : Int) (cas : Bool) (down : Bool) (lost : Int) (x y : Rest) (w : World) (hb : Blk w g 31 (nums N)) (hs1 : 1 ≤ st) (hs2 : st ≤ 12) (hl : lost ≤ 0)  :
    Calls Tryd.prog 17 #[.pointer (some ⟨g, 0, none⟩), cmdV 4 cas down x, ansV st y, .int .i64 lost] w fun e w' =>
      e = .returned (.tuple #[]) ∧ Blk w' g 31 (nums (bumps (evs N lost) (hits 4 st cas down))) ∧ Upd (One g) w w' := by
  have hh : hits 4 st cas down = [2] ++ opt (st == 8) 15 ++ opt (st == 5) 16 := by simp [hits, lTouch, first_two]
  have HH := Lib.hid hh; clear hh
  have hg := hb.lt
  have hg0 : g ≠ w.heap.size := by omega
  have hg1 : g ≠ w.heap.size + 1 := by omega
  have hg2 : w.heap.size ≠ g := by omega
  have hg3 : w.heap.size + 1 ≠ g := by omega
  unfold cmdV ansV
  go_enter Tryd.func17, Tryd.ntmps17
  go_wp2_with fail
  have b0 : Blk (((w).alloc (.cells #[.int .i64 4, x 1, x 2, x 3, x 4, x 5, x 6, x 7, .bool cas, x 9, x 10, .bool down, x 12, x 13, x 14, x 15] 35)).alloc (.cells #[.int .i64 st, y 1, y 2, y 3, y 4, y 5, y 6, y 7, y 8, y 9, y 10, y 11, y 12] 39)) g 31 (nums (evs N lost)) := ((hb.to (by unfold evs; rw [if_neg (by omega)])).alloc _).alloc _
  have u0 : Upd (One g) w (((w).alloc (.cells #[.int .i64 4, x 1, x 2, x 3, x 4, x 5, x 6, x 7, .bool cas, x 9, x 10, .bool down, x 12, x 13, x 14, x 15] 35)).alloc (.cells #[.int .i64 st, y 1, y 2, y 3, y 4, y 5, y 6, y 7, y 8, y 9, y 10, y 11, y 12] 39)) := by repeat (first | exact Upd.refl _ _ | refine Upd.drew ?_ | refine Upd.alloc ?_ _ | refine Upd.setOne ?_ _ _)
  have a0 : Blk (((w).alloc (.cells #[.int .i64 4, x 1, x 2, x 3, x 4, x 5, x 6, x 7, .bool cas, x 9, x 10, .bool down, x 12, x 13, x 14, x 15] 35)).alloc (.cells #[.int .i64 st, y 1, y 2, y 3, y 4, y 5, y 6, y 7, y 8, y 9, y 10, y 11, y 12] 39)) (w.heap.size + 1) 39 #[.int .i64 st, y 1, y 2, y 3, y 4, y 5, y 6, y 7, y 8, y 9, y 10, y 11, y 12] := Blk.new_at _ _ _ _ (by simp)
  have k0 : Blk (((w).alloc (.cells #[.int .i64 4, x 1, x 2, x 3, x 4, x 5, x 6, x 7, .bool cas, x 9, x 10, .bool down, x 12, x 13, x 14, x 15] 35)).alloc (.cells #[.int .i64 st, y 1, y 2, y 3, y 4, y 5, y 6, y 7, y 8, y 9, y 10, y 11, y 12] 39)) w.heap.size 35 #[.int .i64 4, x 1, x 2, x 3, x 4, x 5, x 6, x 7, .bool cas, x 9, x 10, .bool down, x 12, x 13, x 14, x 15] := (Blk.new_at _ _ _ _ (by simp)).alloc _
  generalize ((w).alloc (.cells #[.int .i64 4, x 1, x 2, x 3, x 4, x 5, x 6, x 7, .bool cas, x 9, x 10, .bool down, x 12, x 13, x 14, x 15] 35)).alloc (.cells #[.int .i64 st, y 1, y 2, y 3, y 4, y 5, y 6, y 7, y 8, y 9, y 10, y 11, y 12] 39) = W at b0 u0 a0 k0 ⊢
  refine (ref_one g (evs N lost) 2 (by decide) true W b0).mono ?_
  rintro e W1 ⟨rfl, b1, v1⟩
  have u1 := u0.same v1
  have a1 := a0.upd v1 hg3
  have k1 := k0.upd v1 hg2
  have ca1 : W1.cell? ⟨w.heap.size + 1, 0, none⟩ = some (.int .i64 st) := a1.cell 0
  have ck1 : W1.cell? ⟨w.heap.size, 8, none⟩ = some (.bool cas) := k1.cell 8
  have cd1 : W1.cell? ⟨w.heap.size, 11, none⟩ = some (.bool down) := k1.cell 11
  go_wp2_with fail
  refine (ref_one g (bumps (evs N lost) (opt true 2)) 15 (by decide) (st == 8) W1 b1).mono ?_
  rintro e W2 ⟨rfl, b2, v2⟩
  have u2 := u1.same v2
  have a2 := a1.upd v2 hg3
  have k2 := k1.upd v2 hg2
  have ca2 : W2.cell? ⟨w.heap.size + 1, 0, none⟩ = some (.int .i64 st) := a2.cell 0
  have ck2 : W2.cell? ⟨w.heap.size, 8, none⟩ = some (.bool cas) := k2.cell 8
  have cd2 : W2.cell? ⟨w.heap.size, 11, none⟩ = some (.bool down) := k2.cell 11
  go_wp2_with fail
  refine (ref_one g (bumps (bumps (evs N lost) (opt true 2)) (opt (st == 8) 15)) 16 (by decide) (st == 5) W2 b2).mono ?_
  rintro e W3 ⟨rfl, b3, v3⟩
  have u3 := u2.same v3
  go_wp2
  go_end0
  rw [HH.out]
  refine ⟨rfl, b3.to ?_, u3⟩
  first | rfl | (simp only [bumps_app]; done) | (simp only [bumps_app]; rfl)

set_option maxHeartbeats 2000000 in
theorem rcount_flush_a (g : Nat) (N : Nat → Int) (st : Int) (cas : Bool) (down : Bool) (lost : Int) (x y : Rest) (w : World) (hb : Blk w g 31 (nums N)) (hs1 : 1 ≤ st) (hs2 : st ≤ 12) (hl : 0 < lost)  :
    Calls Tryd.prog 17 #[.pointer (some ⟨g, 0, none⟩), cmdV 6 cas down x, ansV st y, .int .i64 lost] w fun e w' =>
      e = .returned (.tuple #[]) ∧ Blk w' g 31 (nums (bumps (evs N lost) (hits 6 st cas down))) ∧ Upd (One g) w w' := by
  have hh : hits 6 st cas down = [3] := by simp [hits]
  have HH := Lib.hid hh; clear hh
  have c17 := old_cell hb 17 (by omega)
  have f17 := hb.frozen 17
  have hg := hb.lt
  have hg0 : g ≠ w.heap.size := by omega
  have hg1 : g ≠ w.heap.size + 1 := by omega
  have hg2 : w.heap.size ≠ g := by omega
  have hg3 : w.heap.size + 1 ≠ g := by omega
  unfold cmdV ansV
  go_enter Tryd.func17, Tryd.ntmps17
  go_wp2_with fail
  go_region
  go_wp2_with fail
  have b0 : Blk ((((w.setCell ⟨g, 17, none⟩ (.int .u64 (IntKind.u64.wrap (N 17 + IntKind.u64.wrap lost)))).alloc (.cells #[.int .i64 6, x 1, x 2, x 3, x 4, x 5, x 6, x 7, .bool cas, x 9, x 10, .bool down, x 12, x 13, x 14, x 15] 35)).alloc (.cells #[.int .i64 st, y 1, y 2, y 3, y 4, y 5, y 6, y 7, y 8, y 9, y 10, y 11, y 12] 39)).drew) g 31 (nums (evs N lost)) := Blk.drew (((hb.lost lost hl _ rfl).alloc _).alloc _)
  have u0 : Upd (One g) w ((((w.setCell ⟨g, 17, none⟩ (.int .u64 (IntKind.u64.wrap (N 17 + IntKind.u64.wrap lost)))).alloc (.cells #[.int .i64 6, x 1, x 2, x 3, x 4, x 5, x 6, x 7, .bool cas, x 9, x 10, .bool down, x 12, x 13, x 14, x 15] 35)).alloc (.cells #[.int .i64 st, y 1, y 2, y 3, y 4, y 5, y 6, y 7, y 8, y 9, y 10, y 11, y 12] 39)).drew) := by repeat (first | exact Upd.refl _ _ | refine Upd.drew ?_ | refine Upd.alloc ?_ _ | refine Upd.setOne ?_ _ _)
  have a0 : Blk ((((w.setCell ⟨g, 17, none⟩ (.int .u64 (IntKind.u64.wrap (N 17 + IntKind.u64.wrap lost)))).alloc (.cells #[.int .i64 6, x 1, x 2, x 3, x 4, x 5, x 6, x 7, .bool cas, x 9, x 10, .bool down, x 12, x 13, x 14, x 15] 35)).alloc (.cells #[.int .i64 st, y 1, y 2, y 3, y 4, y 5, y 6, y 7, y 8, y 9, y 10, y 11, y 12] 39)).drew) (w.heap.size + 1) 39 #[.int .i64 st, y 1, y 2, y 3, y 4, y 5, y 6, y 7, y 8, y 9, y 10, y 11, y 12] := Blk.drew (Blk.new_at _ _ _ _ (by simp [World.setCell]))
  have k0 : Blk ((((w.setCell ⟨g, 17, none⟩ (.int .u64 (IntKind.u64.wrap (N 17 + IntKind.u64.wrap lost)))).alloc (.cells #[.int .i64 6, x 1, x 2, x 3, x 4, x 5, x 6, x 7, .bool cas, x 9, x 10, .bool down, x 12, x 13, x 14, x 15] 35)).alloc (.cells #[.int .i64 st, y 1, y 2, y 3, y 4, y 5, y 6, y 7, y 8, y 9, y 10, y 11, y 12] 39)).drew) w.heap.size 35 #[.int .i64 6, x 1, x 2, x 3, x 4, x 5, x 6, x 7, .bool cas, x 9, x 10, .bool down, x 12, x 13, x 14, x 15] := Blk.drew ((Blk.new_at _ _ _ _ (by simp [World.setCell])).alloc _)
  generalize (((w.setCell ⟨g, 17, none⟩ (.int .u64 (IntKind.u64.wrap (N 17 + IntKind.u64.wrap lost)))).alloc (.cells #[.int .i64 6, x 1, x 2, x 3, x 4, x 5, x 6, x 7, .bool cas, x 9, x 10, .bool down, x 12, x 13, x 14, x 15] 35)).alloc (.cells #[.int .i64 st, y 1, y 2, y 3, y 4, y 5, y 6, y 7, y 8, y 9, y 10, y 11, y 12] 39)).drew = W at b0 u0 a0 k0 ⊢
  clear c17 f17
  refine (ref_one g (evs N lost) 3 (by decide) true W b0).mono ?_
  rintro e W1 ⟨rfl, b1, v1⟩
  have u1 := u0.same v1
  go_wp2
  go_end0
  rw [HH.out]
  refine ⟨rfl, b1.to ?_, u1⟩
  rfl

set_option maxHeartbeats 2000000 in
theorem rcount_flush_b (g : Nat) (N : Nat → Int) (st : Int) (cas : Bool) (down : Bool) (lost : Int) (x y : Rest) (w : World) (hb : Blk w g 31 (nums N)) (hs1 : 1 ≤ st) (hs2 : st ≤ 12) (hl : lost ≤ 0)  :
    Calls Tryd.prog 17 #[.pointer (some ⟨g, 0, none⟩), cmdV 6 cas down x, ansV st y, .int .i64 lost] w fun e w' =>
      e = .returned (.tuple #[]) ∧ Blk w' g 31 (nums (bumps (evs N lost) (hits 6 st cas down))) ∧ Upd (One g) w w' := by
  have hh : hits 6 st cas down = [3] := by simp [hits]
  have HH := Lib.hid hh; clear hh
  have hg := hb.lt
  have hg0 : g ≠ w.heap.size := by omega
  have hg1 : g ≠ w.heap.size + 1 := by omega
  have hg2 : w.heap.size ≠ g := by omega
  have hg3 : w.heap.size + 1 ≠ g := by omega
  unfold cmdV ansV
  go_enter Tryd.func17, Tryd.ntmps17
  go_wp2_with fail
  have b0 : Blk (((w).alloc (.cells #[.int .i64 6, x 1, x 2, x 3, x 4, x 5, x 6, x 7, .bool cas, x 9, x 10, .bool down, x 12, x 13, x 14, x 15] 35)).alloc (.cells #[.int .i64 st, y 1, y 2, y 3, y 4, y 5, y 6, y 7, y 8, y 9, y 10, y 11, y 12] 39)) g 31 (nums (evs N lost)) := ((hb.to (by unfold evs; rw [if_neg (by omega)])).alloc _).alloc _
  have u0 : Upd (One g) w (((w).alloc (.cells #[.int .i64 6, x 1, x 2, x 3, x 4, x 5, x 6, x 7, .bool cas, x 9, x 10, .bool down, x 12, x 13, x 14, x 15] 35)).alloc (.cells #[.int .i64 st, y 1, y 2, y 3, y 4, y 5, y 6, y 7, y 8, y 9, y 10, y 11, y 12] 39)) := by repeat (first | exact Upd.refl _ _ | refine Upd.drew ?_ | refine Upd.alloc ?_ _ | refine Upd.setOne ?_ _ _)
  have a0 : Blk (((w).alloc (.cells #[.int .i64 6, x 1, x 2, x 3, x 4, x 5, x 6, x 7, .bool cas, x 9, x 10, .bool down, x 12, x 13, x 14, x 15] 35)).alloc (.cells #[.int .i64 st, y 1, y 2, y 3, y 4, y 5, y 6, y 7, y 8, y 9, y 10, y 11, y 12] 39)) (w.heap.size + 1) 39 #[.int .i64 st, y 1, y 2, y 3, y 4, y 5, y 6, y 7, y 8, y 9, y 10, y 11, y 12] := Blk.new_at _ _ _ _ (by simp)
  have k0 : Blk (((w).alloc (.cells #[.int .i64 6, x 1, x 2, x 3, x 4, x 5, x 6, x 7, .bool cas, x 9, x 10, .bool down, x 12, x 13, x 14, x 15] 35)).alloc (.cells #[.int .i64 st, y 1, y 2, y 3, y 4, y 5, y 6, y 7, y 8, y 9, y 10, y 11, y 12] 39)) w.heap.size 35 #[.int .i64 6, x 1, x 2, x 3, x 4, x 5, x 6, x 7, .bool cas, x 9, x 10, .bool down, x 12, x 13, x 14, x 15] := (Blk.new_at _ _ _ _ (by simp)).alloc _
  generalize ((w).alloc (.cells #[.int .i64 6, x 1, x 2, x 3, x 4, x 5, x 6, x 7, .bool cas, x 9, x 10, .bool down, x 12, x 13, x 14, x 15] 35)).alloc (.cells #[.int .i64 st, y 1, y 2, y 3, y 4, y 5, y 6, y 7, y 8, y 9, y 10, y 11, y 12] 39) = W at b0 u0 a0 k0 ⊢
  refine (ref_one g (evs N lost) 3 (by decide) true W b0).mono ?_
  rintro e W1 ⟨rfl, b1, v1⟩
  have u1 := u0.same v1
  go_wp2
  go_end0
  rw [HH.out]
  refine ⟨rfl, b1.to ?_, u1⟩
  rfl

set_option maxHeartbeats 2000000 in
theorem rcount_delete_a (g : Nat) (N : Nat → Int) (st : Int) (cas : Bool) (down : Bool) (lost : Int) (x y : Rest) (w : World) (hb : Blk w g 31 (nums N)) (hs1 : 1 ≤ st) (hs2 : st ≤ 12) (hl : 0 < lost)  :
    Calls Tryd.prog 17 #[.pointer (some ⟨g, 0, none⟩), cmdV 5 cas down x, ansV st y, .int .i64 lost] w fun e w' =>
      e = .returned (.tuple #[]) ∧ Blk w' g 31 (nums (bumps (evs N lost) (hits 5 st cas down))) ∧ Upd (One g) w w' := by
  have hh : hits 5 st cas down = opt (st == 9) 6 ++ opt (st == 5) 7 := by simp [hits, lDelete, first_two]
  have HH := Lib.hid hh; clear hh
  have c17 := old_cell hb 17 (by omega)
  have f17 := hb.frozen 17
  have hg := hb.lt
  have hg0 : g ≠ w.heap.size := by omega
  have hg1 : g ≠ w.heap.size + 1 := by omega
  have hg2 : w.heap.size ≠ g := by omega
  have hg3 : w.heap.size + 1 ≠ g := by omega
  unfold cmdV ansV
  go_enter Tryd.func17, Tryd.ntmps17
  go_wp2_with fail
  go_region
  go_wp2_with fail
  have b0 : Blk ((((w.setCell ⟨g, 17, none⟩ (.int .u64 (IntKind.u64.wrap (N 17 + IntKind.u64.wrap lost)))).alloc (.cells #[.int .i64 5, x 1, x 2, x 3, x 4, x 5, x 6, x 7, .bool cas, x 9, x 10, .bool down, x 12, x 13, x 14, x 15] 35)).alloc (.cells #[.int .i64 st, y 1, y 2, y 3, y 4, y 5, y 6, y 7, y 8, y 9, y 10, y 11, y 12] 39)).drew) g 31 (nums (evs N lost)) := Blk.drew (((hb.lost lost hl _ rfl).alloc _).alloc _)
  have u0 : Upd (One g) w ((((w.setCell ⟨g, 17, none⟩ (.int .u64 (IntKind.u64.wrap (N 17 + IntKind.u64.wrap lost)))).alloc (.cells #[.int .i64 5, x 1, x 2, x 3, x 4, x 5, x 6, x 7, .bool cas, x 9, x 10, .bool down, x 12, x 13, x 14, x 15] 35)).alloc (.cells #[.int .i64 st, y 1, y 2, y 3, y 4, y 5, y 6, y 7, y 8, y 9, y 10, y 11, y 12] 39)).drew) := by repeat (first | exact Upd.refl _ _ | refine Upd.drew ?_ | refine Upd.alloc ?_ _ | refine Upd.setOne ?_ _ _)
  have a0 : Blk ((((w.setCell ⟨g, 17, none⟩ (.int .u64 (IntKind.u64.wrap (N 17 + IntKind.u64.wrap lost)))).alloc (.cells #[.int .i64 5, x 1, x 2, x 3, x 4, x 5, x 6, x 7, .bool cas, x 9, x 10, .bool down, x 12, x 13, x 14, x 15] 35)).alloc (.cells #[.int .i64 st, y 1, y 2, y 3, y 4, y 5, y 6, y 7, y 8, y 9, y 10, y 11, y 12] 39)).drew) (w.heap.size + 1) 39 #[.int .i64 st, y 1, y 2, y 3, y 4, y 5, y 6, y 7, y 8, y 9, y 10, y 11, y 12] := Blk.drew (Blk.new_at _ _ _ _ (by simp [World.setCell]))
  have k0 : Blk ((((w.setCell ⟨g, 17, none⟩ (.int .u64 (IntKind.u64.wrap (N 17 + IntKind.u64.wrap lost)))).alloc (.cells #[.int .i64 5, x 1, x 2, x 3, x 4, x 5, x 6, x 7, .bool cas, x 9, x 10, .bool down, x 12, x 13, x 14, x 15] 35)).alloc (.cells #[.int .i64 st, y 1, y 2, y 3, y 4, y 5, y 6, y 7, y 8, y 9, y 10, y 11, y 12] 39)).drew) w.heap.size 35 #[.int .i64 5, x 1, x 2, x 3, x 4, x 5, x 6, x 7, .bool cas, x 9, x 10, .bool down, x 12, x 13, x 14, x 15] := Blk.drew ((Blk.new_at _ _ _ _ (by simp [World.setCell])).alloc _)
  generalize (((w.setCell ⟨g, 17, none⟩ (.int .u64 (IntKind.u64.wrap (N 17 + IntKind.u64.wrap lost)))).alloc (.cells #[.int .i64 5, x 1, x 2, x 3, x 4, x 5, x 6, x 7, .bool cas, x 9, x 10, .bool down, x 12, x 13, x 14, x 15] 35)).alloc (.cells #[.int .i64 st, y 1, y 2, y 3, y 4, y 5, y 6, y 7, y 8, y 9, y 10, y 11, y 12] 39)).drew = W at b0 u0 a0 k0 ⊢
  clear c17 f17
  refine (ref_one g (evs N lost) 6 (by decide) (st == 9) W b0).mono ?_
  rintro e W1 ⟨rfl, b1, v1⟩
  have u1 := u0.same v1
  have a1 := a0.upd v1 hg3
  have k1 := k0.upd v1 hg2
  have ca1 : W1.cell? ⟨w.heap.size + 1, 0, none⟩ = some (.int .i64 st) := a1.cell 0
  have ck1 : W1.cell? ⟨w.heap.size, 8, none⟩ = some (.bool cas) := k1.cell 8
  have cd1 : W1.cell? ⟨w.heap.size, 11, none⟩ = some (.bool down) := k1.cell 11
  go_wp2_with fail
  refine (ref_one g (bumps (evs N lost) (opt (st == 9) 6)) 7 (by decide) (st == 5) W1 b1).mono ?_
  rintro e W2 ⟨rfl, b2, v2⟩
  have u2 := u1.same v2
  go_wp2
  go_end0
  rw [HH.out]
  refine ⟨rfl, b2.to ?_, u2⟩
  first | rfl | (simp only [bumps_app]; done) | (simp only [bumps_app]; rfl)

set_option maxHeartbeats 2000000 in
theorem rcount_delete_b (g : Nat) (N : Nat → Int) (st : Int) (cas : Bool) (down : Bool) (lost : Int) (x y : Rest) (w : World) (hb : Blk w g 31 (nums N)) (hs1 : 1 ≤ st) (hs2 : st ≤ 12) (hl : lost ≤ 0)  :
    Calls Tryd.prog 17 #[.pointer (some ⟨g, 0, none⟩), cmdV 5 cas down x, ansV st y, .int .i64 lost] w fun e w' =>
      e = .returned (.tuple #[]) ∧ Blk w' g 31 (nums (bumps (evs N lost) (hits 5 st cas down))) ∧ Upd (One g) w w' := by
  have hh : hits 5 st cas down = opt (st == 9) 6 ++ opt (st == 5) 7 := by simp [hits, lDelete, first_two]
  have HH := Lib.hid hh; clear hh
  have hg := hb.lt
  have hg0 : g ≠ w.heap.size := by omega
  have hg1 : g ≠ w.heap.size + 1 := by omega
  have hg2 : w.heap.size ≠ g := by omega
  have hg3 : w.heap.size + 1 ≠ g := by omega
  unfold cmdV ansV
  go_enter Tryd.func17, Tryd.ntmps17
  go_wp2_with fail
  have b0 : Blk (((w).alloc (.cells #[.int .i64 5, x 1, x 2, x 3, x 4, x 5, x 6, x 7, .bool cas, x 9, x 10, .bool down, x 12, x 13, x 14, x 15] 35)).alloc (.cells #[.int .i64 st, y 1, y 2, y 3, y 4, y 5, y 6, y 7, y 8, y 9, y 10, y 11, y 12] 39)) g 31 (nums (evs N lost)) := ((hb.to (by unfold evs; rw [if_neg (by omega)])).alloc _).alloc _
  have u0 : Upd (One g) w (((w).alloc (.cells #[.int .i64 5, x 1, x 2, x 3, x 4, x 5, x 6, x 7, .bool cas, x 9, x 10, .bool down, x 12, x 13, x 14, x 15] 35)).alloc (.cells #[.int .i64 st, y 1, y 2, y 3, y 4, y 5, y 6, y 7, y 8, y 9, y 10, y 11, y 12] 39)) := by repeat (first | exact Upd.refl _ _ | refine Upd.drew ?_ | refine Upd.alloc ?_ _ | refine Upd.setOne ?_ _ _)
  have a0 : Blk (((w).alloc (.cells #[.int .i64 5, x 1, x 2, x 3, x 4, x 5, x 6, x 7, .bool cas, x 9, x 10, .bool down, x 12, x 13, x 14, x 15] 35)).alloc (.cells #[.int .i64 st, y 1, y 2, y 3, y 4, y 5, y 6, y 7, y 8, y 9, y 10, y 11, y 12] 39)) (w.heap.size + 1) 39 #[.int .i64 st, y 1, y 2, y 3, y 4, y 5, y 6, y 7, y 8, y 9, y 10, y 11, y 12] := Blk.new_at _ _ _ _ (by simp)
  have k0 : Blk (((w).alloc (.cells #[.int .i64 5, x 1, x 2, x 3, x 4, x 5, x 6, x 7, .bool cas, x 9, x 10, .bool down, x 12, x 13, x 14, x 15] 35)).alloc (.cells #[.int .i64 st, y 1, y 2, y 3, y 4, y 5, y 6, y 7, y 8, y 9, y 10, y 11, y 12] 39)) w.heap.size 35 #[.int .i64 5, x 1, x 2, x 3, x 4, x 5, x 6, x 7, .bool cas, x 9, x 10, .bool down, x 12, x 13, x 14, x 15] := (Blk.new_at _ _ _ _ (by simp)).alloc _
  generalize ((w).alloc (.cells #[.int .i64 5, x 1, x 2, x 3, x 4, x 5, x 6, x 7, .bool cas, x 9, x 10, .bool down, x 12, x 13, x 14, x 15] 35)).alloc (.cells #[.int .i64 st, y 1, y 2, y 3, y 4, y 5, y 6, y 7, y 8, y 9, y 10, y 11, y 12] 39) = W at b0 u0 a0 k0 ⊢
  refine (ref_one g (evs N lost) 6 (by decide) (st == 9) W b0).mono ?_
  rintro e W1 ⟨rfl, b1, v1⟩
  have u1 := u0.same v1
  have a1 := a0.upd v1 hg3
  have k1 := k0.upd v1 hg2
  have ca1 : W1.cell? ⟨w.heap.size + 1, 0, none⟩ = some (.int .i64 st) := a1.cell 0
  have ck1 : W1.cell? ⟨w.heap.size, 8, none⟩ = some (.bool cas) := k1.cell 8
  have cd1 : W1.cell? ⟨w.heap.size, 11, none⟩ = some (.bool down) := k1.cell 11
  go_wp2_with fail
  refine (ref_one g (bumps (evs N lost) (opt (st == 9) 6)) 7 (by decide) (st == 5) W1 b1).mono ?_
  rintro e W2 ⟨rfl, b2, v2⟩
  have u2 := u1.same v2
  go_wp2
  go_end0
  rw [HH.out]
  refine ⟨rfl, b2.to ?_, u2⟩
  first | rfl | (simp only [bumps_app]; done) | (simp only [bumps_app]; rfl)

set_option maxHeartbeats 2000000 in
theorem rcount_math1_a (g : Nat) (N : Nat → Int) (st : Int) (cas : Bool) (lost : Int) (x y : Rest) (w : World) (hb : Blk w g 31 (nums N)) (hs1 : 1 ≤ st) (hs2 : st ≤ 12) (hl : 0 < lost)  :
    Calls Tryd.prog 17 #[.pointer (some ⟨g, 0, none⟩), cmdV 3 cas true x, ansV st y, .int .i64 lost] w fun e w' =>
      e = .returned (.tuple #[]) ∧ Blk w' g 31 (nums (bumps (evs N lost) (hits 3 st cas true))) ∧ Upd (One g) w w' := by
  have hh : hits 3 st cas true = opt (st == 6) 10 ++ opt (st == 5) 11 := by simp [hits, lDecr, first_two]
  have HH := Lib.hid hh; clear hh
  have c17 := old_cell hb 17 (by omega)
  have f17 := hb.frozen 17
  have hg := hb.lt
  have hg0 : g ≠ w.heap.size := by omega
  have hg1 : g ≠ w.heap.size + 1 := by omega
  have hg2 : w.heap.size ≠ g := by omega
  have hg3 : w.heap.size + 1 ≠ g := by omega
  unfold cmdV ansV
  go_enter Tryd.func17, Tryd.ntmps17
  go_wp2_with fail
  go_region
  go_wp2_with fail
  have b0 : Blk ((((w.setCell ⟨g, 17, none⟩ (.int .u64 (IntKind.u64.wrap (N 17 + IntKind.u64.wrap lost)))).alloc (.cells #[.int .i64 3, x 1, x 2, x 3, x 4, x 5, x 6, x 7, .bool cas, x 9, x 10, .bool true, x 12, x 13, x 14, x 15] 35)).alloc (.cells #[.int .i64 st, y 1, y 2, y 3, y 4, y 5, y 6, y 7, y 8, y 9, y 10, y 11, y 12] 39)).drew) g 31 (nums (evs N lost)) := Blk.drew (((hb.lost lost hl _ rfl).alloc _).alloc _)
  have u0 : Upd (One g) w ((((w.setCell ⟨g, 17, none⟩ (.int .u64 (IntKind.u64.wrap (N 17 + IntKind.u64.wrap lost)))).alloc (.cells #[.int .i64 3, x 1, x 2, x 3, x 4, x 5, x 6, x 7, .bool cas, x 9, x 10, .bool true, x 12, x 13, x 14, x 15] 35)).alloc (.cells #[.int .i64 st, y 1, y 2, y 3, y 4, y 5, y 6, y 7, y 8, y 9, y 10, y 11, y 12] 39)).drew) := by repeat (first | exact Upd.refl _ _ | refine Upd.drew ?_ | refine Upd.alloc ?_ _ | refine Upd.setOne ?_ _ _)
  have a0 : Blk ((((w.setCell ⟨g, 17, none⟩ (.int .u64 (IntKind.u64.wrap (N 17 + IntKind.u64.wrap lost)))).alloc (.cells #[.int .i64 3, x 1, x 2, x 3, x 4, x 5, x 6, x 7, .bool cas, x 9, x 10, .bool true, x 12, x 13, x 14, x 15] 35)).alloc (.cells #[.int .i64 st, y 1, y 2, y 3, y 4, y 5, y 6, y 7, y 8, y 9, y 10, y 11, y 12] 39)).drew) (w.heap.size + 1) 39 #[.int .i64 st, y 1, y 2, y 3, y 4, y 5, y 6, y 7, y 8, y 9, y 10, y 11, y 12] := Blk.drew (Blk.new_at _ _ _ _ (by simp [World.setCell]))
  have k0 : Blk ((((w.setCell ⟨g, 17, none⟩ (.int .u64 (IntKind.u64.wrap (N 17 + IntKind.u64.wrap lost)))).alloc (.cells #[.int .i64 3, x 1, x 2, x 3, x 4, x 5, x 6, x 7, .bool cas, x 9, x 10, .bool true, x 12, x 13, x 14, x 15] 35)).alloc (.cells #[.int .i64 st, y 1, y 2, y 3, y 4, y 5, y 6, y 7, y 8, y 9, y 10, y 11, y 12] 39)).drew) w.heap.size 35 #[.int .i64 3, x 1, x 2, x 3, x 4, x 5, x 6, x 7, .bool cas, x 9, x 10, .bool true, x 12, x 13, x 14, x 15] := Blk.drew ((Blk.new_at _ _ _ _ (by simp [World.setCell])).alloc _)
  generalize (((w.setCell ⟨g, 17, none⟩ (.int .u64 (IntKind.u64.wrap (N 17 + IntKind.u64.wrap lost)))).alloc (.cells #[.int .i64 3, x 1, x 2, x 3, x 4, x 5, x 6, x 7, .bool cas, x 9, x 10, .bool true, x 12, x 13, x 14, x 15] 35)).alloc (.cells #[.int .i64 st, y 1, y 2, y 3, y 4, y 5, y 6, y 7, y 8, y 9, y 10, y 11, y 12] 39)).drew = W at b0 u0 a0 k0 ⊢
  clear c17 f17
  refine (ref_one g (evs N lost) 8 (by decide) false W b0).mono ?_
  rintro e W1 ⟨rfl, b1, v1⟩
  have u1 := u0.same v1
  have a1 := a0.upd v1 hg3
  have k1 := k0.upd v1 hg2
  have ca1 : W1.cell? ⟨w.heap.size + 1, 0, none⟩ = some (.int .i64 st) := a1.cell 0
  have ck1 : W1.cell? ⟨w.heap.size, 8, none⟩ = some (.bool cas) := k1.cell 8
  have cd1 : W1.cell? ⟨w.heap.size, 11, none⟩ = some (.bool true) := k1.cell 11
  go_wp2_with fail
  refine (ref_one g (bumps (evs N lost) (opt false 8)) 9 (by decide) false W1 b1).mono ?_
  rintro e W2 ⟨rfl, b2, v2⟩
  have u2 := u1.same v2
  have a2 := a1.upd v2 hg3
  have k2 := k1.upd v2 hg2
  have ca2 : W2.cell? ⟨w.heap.size + 1, 0, none⟩ = some (.int .i64 st) := a2.cell 0
  have ck2 : W2.cell? ⟨w.heap.size, 8, none⟩ = some (.bool cas) := k2.cell 8
  have cd2 : W2.cell? ⟨w.heap.size, 11, none⟩ = some (.bool true) := k2.cell 11
  go_wp2_with fail
  refine (ref_one g (bumps (bumps (evs N lost) (opt false 8)) (opt false 9)) 10 (by decide) (st == 6) W2 b2).mono ?_
  rintro e W3 ⟨rfl, b3, v3⟩
  have u3 := u2.same v3
  have a3 := a2.upd v3 hg3
  have k3 := k2.upd v3 hg2
  have ca3 : W3.cell? ⟨w.heap.size + 1, 0, none⟩ = some (.int .i64 st) := a3.cell 0
  have ck3 : W3.cell? ⟨w.heap.size, 8, none⟩ = some (.bool cas) := k3.cell 8
  have cd3 : W3.cell? ⟨w.heap.size, 11, none⟩ = some (.bool true) := k3.cell 11
  go_wp2_with fail
  refine (ref_one g (bumps (bumps (bumps (evs N lost) (opt false 8)) (opt false 9)) (opt (st == 6) 10)) 11 (by decide) (st == 5) W3 b3).mono ?_
  rintro e W4 ⟨rfl, b4, v4⟩
  have u4 := u3.same v4
  go_wp2
  go_end0
  rw [HH.out]
  refine ⟨rfl, b4.to ?_, u4⟩
  first | rfl | (simp only [bumps_app]; done) | (simp only [bumps_app]; rfl)

set_option maxHeartbeats 2000000 in
theorem rcount_math1_b (g : Nat) (N : Nat → Int) (st : Int) (cas : Bool) (lost : Int) (x y : Rest) (w : World) (hb : Blk w g 31 (nums N)) (hs1 : 1 ≤ st) (hs2 : st ≤ 12) (hl : lost ≤ 0)  :
    Calls Tryd.prog 17 #[.pointer (some ⟨g, 0, none⟩), cmdV 3 cas true x, ansV st y, .int .i64 lost] w fun e w' =>
      e = .returned (.tuple #[]) ∧ Blk w' g 31 (nums (bumps (evs N lost) (hits 3 st cas true))) ∧ Upd (One g) w w' := by
  have hh : hits 3 st cas true = opt (st == 6) 10 ++ opt (st == 5) 11 := by simp [hits, lDecr, first_two]
  have HH := Lib.hid hh; clear hh
  have hg := hb.lt
  have hg0 : g ≠ w.heap.size := by omega
  have hg1 : g ≠ w.heap.size + 1 := by omega
  have hg2 : w.heap.size ≠ g := by omega
  have hg3 : w.heap.size + 1 ≠ g := by omega
  unfold cmdV ansV
  go_enter Tryd.func17, Tryd.ntmps17
  go_wp2_with fail
  have b0 : Blk (((w).alloc (.cells #[.int .i64 3, x 1, x 2, x 3, x 4, x 5, x 6, x 7, .bool cas, x 9, x 10, .bool true, x 12, x 13, x 14, x 15] 35)).alloc (.cells #[.int .i64 st, y 1, y 2, y 3, y 4, y 5, y 6, y 7, y 8, y 9, y 10, y 11, y 12] 39)) g 31 (nums (evs N lost)) := ((hb.to (by unfold evs; rw [if_neg (by omega)])).alloc _).alloc _
  have u0 : Upd (One g) w (((w).alloc (.cells #[.int .i64 3, x 1, x 2, x 3, x 4, x 5, x 6, x 7, .bool cas, x 9, x 10, .bool true, x 12, x 13, x 14, x 15] 35)).alloc (.cells #[.int .i64 st, y 1, y 2, y 3, y 4, y 5, y 6, y 7, y 8, y 9, y 10, y 11, y 12] 39)) := by repeat (first | exact Upd.refl _ _ | refine Upd.drew ?_ | refine Upd.alloc ?_ _ | refine Upd.setOne ?_ _ _)
  have a0 : Blk (((w).alloc (.cells #[.int .i64 3, x 1, x 2, x 3, x 4, x 5, x 6, x 7, .bool cas, x 9, x 10, .bool true, x 12, x 13, x 14, x 15] 35)).alloc (.cells #[.int .i64 st, y 1, y 2, y 3, y 4, y 5, y 6, y 7, y 8, y 9, y 10, y 11, y 12] 39)) (w.heap.size + 1) 39 #[.int .i64 st, y 1, y 2, y 3, y 4, y 5, y 6, y 7, y 8, y 9, y 10, y 11, y 12] := Blk.new_at _ _ _ _ (by simp)
  have k0 : Blk (((w).alloc (.cells #[.int .i64 3, x 1, x 2, x 3, x 4, x 5, x 6, x 7, .bool cas, x 9, x 10, .bool true, x 12, x 13, x 14, x 15] 35)).alloc (.cells #[.int .i64 st, y 1, y 2, y 3, y 4, y 5, y 6, y 7, y 8, y 9, y 10, y 11, y 12] 39)) w.heap.size 35 #[.int .i64 3, x 1, x 2, x 3, x 4, x 5, x 6, x 7, .bool cas, x 9, x 10, .bool true, x 12, x 13, x 14, x 15] := (Blk.new_at _ _ _ _ (by simp)).alloc _
  generalize ((w).alloc (.cells #[.int .i64 3, x 1, x 2, x 3, x 4, x 5, x 6, x 7, .bool cas, x 9, x 10, .bool true, x 12, x 13, x 14, x 15] 35)).alloc (.cells #[.int .i64 st, y 1, y 2, y 3, y 4, y 5, y 6, y 7, y 8, y 9, y 10, y 11, y 12] 39) = W at b0 u0 a0 k0 ⊢
  refine (ref_one g (evs N lost) 8 (by decide) false W b0).mono ?_
  rintro e W1 ⟨rfl, b1, v1⟩
  have u1 := u0.same v1
  have a1 := a0.upd v1 hg3
  have k1 := k0.upd v1 hg2
  have ca1 : W1.cell? ⟨w.heap.size + 1, 0, none⟩ = some (.int .i64 st) := a1.cell 0
  have ck1 : W1.cell? ⟨w.heap.size, 8, none⟩ = some (.bool cas) := k1.cell 8
  have cd1 : W1.cell? ⟨w.heap.size, 11, none⟩ = some (.bool true) := k1.cell 11
  go_wp2_with fail
  refine (ref_one g (bumps (evs N lost) (opt false 8)) 9 (by decide) false W1 b1).mono ?_
  rintro e W2 ⟨rfl, b2, v2⟩
  have u2 := u1.same v2
  have a2 := a1.upd v2 hg3
  have k2 := k1.upd v2 hg2
  have ca2 : W2.cell? ⟨w.heap.size + 1, 0, none⟩ = some (.int .i64 st) := a2.cell 0
  have ck2 : W2.cell? ⟨w.heap.size, 8, none⟩ = some (.bool cas) := k2.cell 8
  have cd2 : W2.cell? ⟨w.heap.size, 11, none⟩ = some (.bool true) := k2.cell 11
  go_wp2_with fail
  refine (ref_one g (bumps (bumps (evs N lost) (opt false 8)) (opt false 9)) 10 (by decide) (st == 6) W2 b2).mono ?_
  rintro e W3 ⟨rfl, b3, v3⟩
  have u3 := u2.same v3
  have a3 := a2.upd v3 hg3
  have k3 := k2.upd v3 hg2
  have ca3 : W3.cell? ⟨w.heap.size + 1, 0, none⟩ = some (.int .i64 st) := a3.cell 0
  have ck3 : W3.cell? ⟨w.heap.size, 8, none⟩ = some (.bool cas) := k3.cell 8
  have cd3 : W3.cell? ⟨w.heap.size, 11, none⟩ = some (.bool true) := k3.cell 11
  go_wp2_with fail
  refine (ref_one g (bumps (bumps (bumps (evs N lost) (opt false 8)) (opt false 9)) (opt (st == 6) 10)) 11 (by decide) (st == 5) W3 b3).mono ?_
  rintro e W4 ⟨rfl, b4, v4⟩
  have u4 := u3.same v4
  go_wp2
  go_end0
  rw [HH.out]
  refine ⟨rfl, b4.to ?_, u4⟩
  first | rfl | (simp only [bumps_app]; done) | (simp only [bumps_app]; rfl)

set_option maxHeartbeats 2000000 in
theorem rcount_math2_a (g : Nat) (N : Nat → Int) (st : Int) (cas : Bool) (lost : Int) (x y : Rest) (w : World) (hb : Blk w g 31 (nums N)) (hs1 : 1 ≤ st) (hs2 : st ≤ 12) (hl : 0 < lost)  :
    Calls Tryd.prog 17 #[.pointer (some ⟨g, 0, none⟩), cmdV 3 cas false x, ansV st y, .int .i64 lost] w fun e w' =>
      e = .returned (.tuple #[]) ∧ Blk w' g 31 (nums (bumps (evs N lost) (hits 3 st cas false))) ∧ Upd (One g) w w' := by
  have hh : hits 3 st cas false = opt (st == 6) 8 ++ opt (st == 5) 9 := by simp [hits, lIncr, first_two]
  have HH := Lib.hid hh; clear hh
  have c17 := old_cell hb 17 (by omega)
  have f17 := hb.frozen 17
  have hg := hb.lt
  have hg0 : g ≠ w.heap.size := by omega
  have hg1 : g ≠ w.heap.size + 1 := by omega
  have hg2 : w.heap.size ≠ g := by omega
  have hg3 : w.heap.size + 1 ≠ g := by omega
  unfold cmdV ansV
  go_enter Tryd.func17, Tryd.ntmps17
  go_wp2_with fail
  go_region
  go_wp2_with fail
  have b0 : Blk ((((w.setCell ⟨g, 17, none⟩ (.int .u64 (IntKind.u64.wrap (N 17 + IntKind.u64.wrap lost)))).alloc (.cells #[.int .i64 3, x 1, x 2, x 3, x 4, x 5, x 6, x 7, .bool cas, x 9, x 10, .bool false, x 12, x 13, x 14, x 15] 35)).alloc (.cells #[.int .i64 st, y 1, y 2, y 3, y 4, y 5, y 6, y 7, y 8, y 9, y 10, y 11, y 12] 39)).drew) g 31 (nums (evs N lost)) := Blk.drew (((hb.lost lost hl _ rfl).alloc _).alloc _)
  have u0 : Upd (One g) w ((((w.setCell ⟨g, 17, none⟩ (.int .u64 (IntKind.u64.wrap (N 17 + IntKind.u64.wrap lost)))).alloc (.cells #[.int .i64 3, x 1, x 2, x 3, x 4, x 5, x 6, x 7, .bool cas, x 9, x 10, .bool false, x 12, x 13, x 14, x 15] 35)).alloc (.cells #[.int .i64 st, y 1, y 2, y 3, y 4, y 5, y 6, y 7, y 8, y 9, y 10, y 11, y 12] 39)).drew) := by repeat (first | exact Upd.refl _ _ | refine Upd.drew ?_ | refine Upd.alloc ?_ _ | refine Upd.setOne ?_ _ _)
  have a0 : Blk ((((w.setCell ⟨g, 17, none⟩ (.int .u64 (IntKind.u64.wrap (N 17 + IntKind.u64.wrap lost)))).alloc (.cells #[.int .i64 3, x 1, x 2, x 3, x 4, x 5, x 6, x 7, .bool cas, x 9, x 10, .bool false, x 12, x 13, x 14, x 15] 35)).alloc (.cells #[.int .i64 st, y 1, y 2, y 3, y 4, y 5, y 6, y 7, y 8, y 9, y 10, y 11, y 12] 39)).drew) (w.heap.size + 1) 39 #[.int .i64 st, y 1, y 2, y 3, y 4, y 5, y 6, y 7, y 8, y 9, y 10, y 11, y 12] := Blk.drew (Blk.new_at _ _ _ _ (by simp [World.setCell]))
  have k0 : Blk ((((w.setCell ⟨g, 17, none⟩ (.int .u64 (IntKind.u64.wrap (N 17 + IntKind.u64.wrap lost)))).alloc (.cells #[.int .i64 3, x 1, x 2, x 3, x 4, x 5, x 6, x 7, .bool cas, x 9, x 10, .bool false, x 12, x 13, x 14, x 15] 35)).alloc (.cells #[.int .i64 st, y 1, y 2, y 3, y 4, y 5, y 6, y 7, y 8, y 9, y 10, y 11, y 12] 39)).drew) w.heap.size 35 #[.int .i64 3, x 1, x 2, x 3, x 4, x 5, x 6, x 7, .bool cas, x 9, x 10, .bool false, x 12, x 13, x 14, x 15] := Blk.drew ((Blk.new_at _ _ _ _ (by simp [World.setCell])).alloc _)
  generalize (((w.setCell ⟨g, 17, none⟩ (.int .u64 (IntKind.u64.wrap (N 17 + IntKind.u64.wrap lost)))).alloc (.cells #[.int .i64 3, x 1, x 2, x 3, x 4, x 5, x 6, x 7, .bool cas, x 9, x 10, .bool false, x 12, x 13, x 14, x 15] 35)).alloc (.cells #[.int .i64 st, y 1, y 2, y 3, y 4, y 5, y 6, y 7, y 8, y 9, y 10, y 11, y 12] 39)).drew = W at b0 u0 a0 k0 ⊢
  clear c17 f17
  refine (ref_one g (evs N lost) 8 (by decide) (st == 6) W b0).mono ?_
  rintro e W1 ⟨rfl, b1, v1⟩
  have u1 := u0.same v1
  have a1 := a0.upd v1 hg3
  have k1 := k0.upd v1 hg2
  have ca1 : W1.cell? ⟨w.heap.size + 1, 0, none⟩ = some (.int .i64 st) := a1.cell 0
  have ck1 : W1.cell? ⟨w.heap.size, 8, none⟩ = some (.bool cas) := k1.cell 8
  have cd1 : W1.cell? ⟨w.heap.size, 11, none⟩ = some (.bool false) := k1.cell 11
  go_wp2_with fail
  refine (ref_one g (bumps (evs N lost) (opt (st == 6) 8)) 9 (by decide) (st == 5) W1 b1).mono ?_
  rintro e W2 ⟨rfl, b2, v2⟩
  have u2 := u1.same v2
  have a2 := a1.upd v2 hg3
  have k2 := k1.upd v2 hg2
  have ca2 : W2.cell? ⟨w.heap.size + 1, 0, none⟩ = some (.int .i64 st) := a2.cell 0
  have ck2 : W2.cell? ⟨w.heap.size, 8, none⟩ = some (.bool cas) := k2.cell 8
  have cd2 : W2.cell? ⟨w.heap.size, 11, none⟩ = some (.bool false) := k2.cell 11
  go_wp2_with fail
  refine (ref_one g (bumps (bumps (evs N lost) (opt (st == 6) 8)) (opt (st == 5) 9)) 10 (by decide) false W2 b2).mono ?_
  rintro e W3 ⟨rfl, b3, v3⟩
  have u3 := u2.same v3
  have a3 := a2.upd v3 hg3
  have k3 := k2.upd v3 hg2
  have ca3 : W3.cell? ⟨w.heap.size + 1, 0, none⟩ = some (.int .i64 st) := a3.cell 0
  have ck3 : W3.cell? ⟨w.heap.size, 8, none⟩ = some (.bool cas) := k3.cell 8
  have cd3 : W3.cell? ⟨w.heap.size, 11, none⟩ = some (.bool false) := k3.cell 11
  go_wp2_with fail
  refine (ref_one g (bumps (bumps (bumps (evs N lost) (opt (st == 6) 8)) (opt (st == 5) 9)) (opt false 10)) 11 (by decide) false W3 b3).mono ?_
  rintro e W4 ⟨rfl, b4, v4⟩
  have u4 := u3.same v4
  go_wp2
  go_end0
  rw [HH.out]
  refine ⟨rfl, b4.to ?_, u4⟩
  first | rfl | (simp only [bumps_app]; done) | (simp only [bumps_app]; rfl)

set_option maxHeartbeats 2000000 in
theorem rcount_math2_b (g : Nat) (N : Nat → Int) (st : Int) (cas : Bool) (lost : Int) (x y : Rest) (w : World) (hb : Blk w g 31 (nums N)) (hs1 : 1 ≤ st) (hs2 : st ≤ 12) (hl : lost ≤ 0)  :
    Calls Tryd.prog 17 #[.pointer (some ⟨g, 0, none⟩), cmdV 3 cas false x, ansV st y, .int .i64 lost] w fun e w' =>
      e = .returned (.tuple #[]) ∧ Blk w' g 31 (nums (bumps (evs N lost) (hits 3 st cas false))) ∧ Upd (One g) w w' := by
  have hh : hits 3 st cas false = opt (st == 6) 8 ++ opt (st == 5) 9 := by simp [hits, lIncr, first_two]
  have HH := Lib.hid hh; clear hh
  have hg := hb.lt
  have hg0 : g ≠ w.heap.size := by omega
  have hg1 : g ≠ w.heap.size + 1 := by omega
  have hg2 : w.heap.size ≠ g := by omega
  have hg3 : w.heap.size + 1 ≠ g := by omega
  unfold cmdV ansV
  go_enter Tryd.func17, Tryd.ntmps17
  go_wp2_with fail
  have b0 : Blk (((w).alloc (.cells #[.int .i64 3, x 1, x 2, x 3, x 4, x 5, x 6, x 7, .bool cas, x 9, x 10, .bool false, x 12, x 13, x 14, x 15] 35)).alloc (.cells #[.int .i64 st, y 1, y 2, y 3, y 4, y 5, y 6, y 7, y 8, y 9, y 10, y 11, y 12] 39)) g 31 (nums (evs N lost)) := ((hb.to (by unfold evs; rw [if_neg (by omega)])).alloc _).alloc _
  have u0 : Upd (One g) w (((w).alloc (.cells #[.int .i64 3, x 1, x 2, x 3, x 4, x 5, x 6, x 7, .bool cas, x 9, x 10, .bool false, x 12, x 13, x 14, x 15] 35)).alloc (.cells #[.int .i64 st, y 1, y 2, y 3, y 4, y 5, y 6, y 7, y 8, y 9, y 10, y 11, y 12] 39)) := by repeat (first | exact Upd.refl _ _ | refine Upd.drew ?_ | refine Upd.alloc ?_ _ | refine Upd.setOne ?_ _ _)
  have a0 : Blk (((w).alloc (.cells #[.int .i64 3, x 1, x 2, x 3, x 4, x 5, x 6, x 7, .bool cas, x 9, x 10, .bool false, x 12, x 13, x 14, x 15] 35)).alloc (.cells #[.int .i64 st, y 1, y 2, y 3, y 4, y 5, y 6, y 7, y 8, y 9, y 10, y 11, y 12] 39)) (w.heap.size + 1) 39 #[.int .i64 st, y 1, y 2, y 3, y 4, y 5, y 6, y 7, y 8, y 9, y 10, y 11, y 12] := Blk.new_at _ _ _ _ (by simp)
  have k0 : Blk (((w).alloc (.cells #[.int .i64 3, x 1, x 2, x 3, x 4, x 5, x 6, x 7, .bool cas, x 9, x 10, .bool false, x 12, x 13, x 14, x 15] 35)).alloc (.cells #[.int .i64 st, y 1, y 2, y 3, y 4, y 5, y 6, y 7, y 8, y 9, y 10, y 11, y 12] 39)) w.heap.size 35 #[.int .i64 3, x 1, x 2, x 3, x 4, x 5, x 6, x 7, .bool cas, x 9, x 10, .bool false, x 12, x 13, x 14, x 15] := (Blk.new_at _ _ _ _ (by simp)).alloc _
  generalize ((w).alloc (.cells #[.int .i64 3, x 1, x 2, x 3, x 4, x 5, x 6, x 7, .bool cas, x 9, x 10, .bool false, x 12, x 13, x 14, x 15] 35)).alloc (.cells #[.int .i64 st, y 1, y 2, y 3, y 4, y 5, y 6, y 7, y 8, y 9, y 10, y 11, y 12] 39) = W at b0 u0 a0 k0 ⊢
  refine (ref_one g (evs N lost) 8 (by decide) (st == 6) W b0).mono ?_
  rintro e W1 ⟨rfl, b1, v1⟩
  have u1 := u0.same v1
  have a1 := a0.upd v1 hg3
  have k1 := k0.upd v1 hg2
  have ca1 : W1.cell? ⟨w.heap.size + 1, 0, none⟩ = some (.int .i64 st) := a1.cell 0
  have ck1 : W1.cell? ⟨w.heap.size, 8, none⟩ = some (.bool cas) := k1.cell 8
  have cd1 : W1.cell? ⟨w.heap.size, 11, none⟩ = some (.bool false) := k1.cell 11
  go_wp2_with fail
  refine (ref_one g (bumps (evs N lost) (opt (st == 6) 8)) 9 (by decide) (st == 5) W1 b1).mono ?_
  rintro e W2 ⟨rfl, b2, v2⟩
  have u2 := u1.same v2
  have a2 := a1.upd v2 hg3
  have k2 := k1.upd v2 hg2
  have ca2 : W2.cell? ⟨w.heap.size + 1, 0, none⟩ = some (.int .i64 st) := a2.cell 0
  have ck2 : W2.cell? ⟨w.heap.size, 8, none⟩ = some (.bool cas) := k2.cell 8
  have cd2 : W2.cell? ⟨w.heap.size, 11, none⟩ = some (.bool false) := k2.cell 11
  go_wp2_with fail
  refine (ref_one g (bumps (bumps (evs N lost) (opt (st == 6) 8)) (opt (st == 5) 9)) 10 (by decide) false W2 b2).mono ?_
  rintro e W3 ⟨rfl, b3, v3⟩
  have u3 := u2.same v3
  have a3 := a2.upd v3 hg3
  have k3 := k2.upd v3 hg2
  have ca3 : W3.cell? ⟨w.heap.size + 1, 0, none⟩ = some (.int .i64 st) := a3.cell 0
  have ck3 : W3.cell? ⟨w.heap.size, 8, none⟩ = some (.bool cas) := k3.cell 8
  have cd3 : W3.cell? ⟨w.heap.size, 11, none⟩ = some (.bool false) := k3.cell 11
  go_wp2_with fail
  refine (ref_one g (bumps (bumps (bumps (evs N lost) (opt (st == 6) 8)) (opt (st == 5) 9)) (opt false 10)) 11 (by decide) false W3 b3).mono ?_
  rintro e W4 ⟨rfl, b4, v4⟩
  have u4 := u3.same v4
  go_wp2
  go_end0
  rw [HH.out]
  refine ⟨rfl, b4.to ?_, u4⟩
  first | rfl | (simp only [bumps_app]; done) | (simp only [bumps_app]; rfl)

set_option maxHeartbeats 2000000 in
theorem rcount_other_a (g : Nat) (N : Nat → Int) (op : Int) (st : Int) (cas : Bool) (down : Bool) (lost : Int) (x y : Rest) (w : World) (hb : Blk w g 31 (nums N)) (hs1 : 1 ≤ st) (hs2 : st ≤ 12) (hl : 0 < lost) (ho : op ≠ 1 ∧ op ≠ 2 ∧ op ≠ 3 ∧ op ≠ 4 ∧ op ≠ 5 ∧ op ≠ 6) :
    Calls Tryd.prog 17 #[.pointer (some ⟨g, 0, none⟩), cmdV op cas down x, ansV st y, .int .i64 lost] w fun e w' =>
      e = .returned (.tuple #[]) ∧ Blk w' g 31 (nums (bumps (evs N lost) (hits op st cas down))) ∧ Upd (One g) w w' := by
  obtain ⟨o1, o2, o3, o4, o5, o6⟩ := ho
  have hh : hits op st cas down = [] := by simp [hits, *]
  have b1 : (op == 1) = false := by simpa using o1
  have b2 : (op == 2) = false := by simpa using o2
  have b3 : (op == 3) = false := by simpa using o3
  have b4 : (op == 4) = false := by simpa using o4
  have b5 : (op == 5) = false := by simpa using o5
  have b6 : (op == 6) = false := by simpa using o6
  have HH := Lib.hid hh; clear hh
  have c17 := old_cell hb 17 (by omega)
  have f17 := hb.frozen 17
  have hg := hb.lt
  have hg0 : g ≠ w.heap.size := by omega
  have hg1 : g ≠ w.heap.size + 1 := by omega
  have hg2 : w.heap.size ≠ g := by omega
  have hg3 : w.heap.size + 1 ≠ g := by omega
  unfold cmdV ansV
  go_enter Tryd.func17, Tryd.ntmps17
  go_wp2_with fail
  go_region
  go_wp2
  go_end0
  rw [HH.out]
  refine ⟨rfl, ?_, ?_⟩
  · exact ((hb.lost lost hl _ rfl).alloc _).alloc _
  · repeat (first | exact Upd.refl _ _ | refine Upd.drew ?_ | refine Upd.alloc ?_ _ | refine Upd.setOne ?_ _ _)

set_option maxHeartbeats 2000000 in
theorem rcount_other_b (g : Nat) (N : Nat → Int) (op : Int) (st : Int) (cas : Bool) (down : Bool) (lost : Int) (x y : Rest) (w : World) (hb : Blk w g 31 (nums N)) (hs1 : 1 ≤ st) (hs2 : st ≤ 12) (hl : lost ≤ 0) (ho : op ≠ 1 ∧ op ≠ 2 ∧ op ≠ 3 ∧ op ≠ 4 ∧ op ≠ 5 ∧ op ≠ 6) :
    Calls Tryd.prog 17 #[.pointer (some ⟨g, 0, none⟩), cmdV op cas down x, ansV st y, .int .i64 lost] w fun e w' =>
      e = .returned (.tuple #[]) ∧ Blk w' g 31 (nums (bumps (evs N lost) (hits op st cas down))) ∧ Upd (One g) w w' := by
  obtain ⟨o1, o2, o3, o4, o5, o6⟩ := ho
  have hh : hits op st cas down = [] := by simp [hits, *]
  have b1 : (op == 1) = false := by simpa using o1
  have b2 : (op == 2) = false := by simpa using o2
  have b3 : (op == 3) = false := by simpa using o3
  have b4 : (op == 4) = false := by simpa using o4
  have b5 : (op == 5) = false := by simpa using o5
  have b6 : (op == 6) = false := by simpa using o6
  have HH := Lib.hid hh; clear hh
  have hg := hb.lt
  have hg0 : g ≠ w.heap.size := by omega
  have hg1 : g ≠ w.heap.size + 1 := by omega
  have hg2 : w.heap.size ≠ g := by omega
  have hg3 : w.heap.size + 1 ≠ g := by omega
  unfold cmdV ansV
  go_enter Tryd.func17, Tryd.ntmps17
  go_wp2
  go_end0
  rw [HH.out]
  refine ⟨rfl, ?_, ?_⟩
  · refine (Blk.alloc (Blk.alloc (hb.to ?_) _) _); unfold evs; rw [if_neg (by omega)]; rfl
  · repeat (first | exact Upd.refl _ _ | refine Upd.drew ?_ | refine Upd.alloc ?_ _ | refine Upd.setOne ?_ _ _)
end Go.Proofs.YtjfkfnlnjklcdaaDoor
