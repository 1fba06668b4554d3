/- Counting: what stats.Count does to the eighteen numbers, case by case. -/
import Derived.Test.YtjfkfnlnjklcdaaDoorStatA
namespace Go.Proofs.YtjfkfnlnjklcdaaDoor
open Go.RowKit

def lStore : List (Int × Nat) := [(2, 12), (4, 13), (5, 14)]
def lTouch : List (Int × Nat) := [(8, 15), (5, 16)]
def lDelete : List (Int × Nat) := [(9, 6), (5, 7)]
def lIncr : List (Int × Nat) := [(6, 8), (5, 9)]
def lDecr : List (Int × Nat) := [(6, 10), (5, 11)]
/-- the places that are one more -/
def hits (op st : Int) (cas down : Bool) : List Nat :=
  if op = 1 then [0, if st = 1 then 4 else 5]
  else if op = 2 then 1 :: (if cas then first lStore st else [])
  else if op = 4 then 2 :: first lTouch st
  else if op = 6 then [3]
  else if op = 5 then first lDelete st
  else if op = 3 then (if down then first lDecr st else first lIncr st)
  else []
/-- what was dropped -/
def evs (N : Nat → Int) (lost : Int) : Nat → Int := if 0 < lost then bump N 17 lost else N
/-- one command counted -/
def step (op st lost : Int) (cas down : Bool) (N : Nat → Int) : Nat → Int :=
  if st < 1 ∨ 12 < st then N else bumps (evs N lost) (hits op st cas down)
theorem evs_rng {N : Nat → Int} (h : Rng N) (lost : Int) : Rng (evs N lost) := by unfold evs; split; exact bump_rng h _ _; exact h
theorem step_rng {N : Nat → Int} (h : Rng N) (op st lost : Int) (cas down : Bool) : Rng (step op st lost cas down N) := by
  unfold step; split
  · exact h
  · exact bumps_rng (evs_rng h _) _

/-- a command's value: three fields, the others whatever -/
def Rest : Type := Nat → Value
def cmdV (op : Int) (cas down : Bool) (x : Rest) : Value := .agg #[.int .i64 op, x 1, x 2, x 3, x 4, x 5, x 6, x 7, .bool cas, x 9, x 10, .bool down, x 12, x 13, x 14, x 15]
def ansV (st : Int) (y : Rest) : Value := .agg #[.int .i64 st, y 1, y 2, y 3, y 4, y 5, y 6, y 7, y 8, y 9, y 10, y 11, y 12]

/-- a store at a place that reads as said -/
theorem Blk.bump {w : World} {g : Nat} {M : Nat → Int} {t : TypeId} (h : Blk w g t (nums M)) (k : Nat) (hk : k < 18) (v : Int) (d : Int) (hv : v = IntKind.u64.wrap (M k + d)) : Blk (w.setCell ⟨g, k, none⟩ (.int .u64 v)) g t (nums (Go.Proofs.YtjfkfnlnjklcdaaDoor.bump M k d)) := by
  subst hv; exact (h.set_ k _).to (nums_set M k d hk)
theorem bump_ne (M : Nat → Int) (k j : Nat) (d : Int) (h : j ≠ k) : bump M k d j = M j := by unfold bump; rw [if_neg h]
theorem evs_ne (M : Nat → Int) (d : Int) (j : Nat) (h : j ≠ 17) : evs M d j = M j := by unfold evs; split; exact bump_ne _ _ _ _ h; rfl
theorem Blk.new_at (w : World) (t : TypeId) (cs : Array Value) (n : Nat) (h : w.heap.size = n) : Blk (w.alloc (.cells cs t)) n t cs := h ▸ Blk.new w t cs
theorem wrap_wrap (n d : Int) : IntKind.u64.wrap (n + IntKind.u64.wrap d) = IntKind.u64.wrap (n + d) := by
  rw [IntKind.wrap_u64, IntKind.wrap_u64, IntKind.wrap_u64]; omega
theorem wrap_id {n : Int} (h : 0 ≤ n ∧ n < 18446744073709551616) : IntKind.u64.wrap n = n := by rw [IntKind.wrap_u64]; omega
theorem Blk.lost {w : World} {g : Nat} {M : Nat → Int} {t : TypeId} (h : Blk w g t (nums M)) (d : Int) (hd : 0 < d) (v : Int) (hv : v = IntKind.u64.wrap (M 17 + IntKind.u64.wrap d)) : Blk (w.setCell ⟨g, 17, none⟩ (.int .u64 v)) g t (nums (evs M d)) := by
  unfold evs; rw [if_pos hd]
  exact h.bump 17 (by omega) v d (by rw [hv, wrap_wrap])
theorem Blk.lost0 {w : World} {g : Nat} {M : Nat → Int} {t : TypeId} (hr : Rng M) (h : Blk w g t (nums M)) (d : Int) (hd : d ≤ 0) (v : Int) (hv : v = IntKind.u64.wrap (M 17)) : Blk (w.setCell ⟨g, 17, none⟩ (.int .u64 v)) g t (nums (evs M d)) := by
  unfold evs; rw [if_neg (by omega)]
  have := h.bump 17 (by omega) v 0 (by rw [hv]; simp)
  rwa [bump_zero hr] at this

set_option maxHeartbeats 2000000 in
theorem count_get1_a (g : Nat) (N : Nat → Int) (hN : Rng N) (cas : Bool) (down : Bool) (lost : Int) (x y : Rest) (w : World) (hb : Blk w g 62 (nums N)) (hl : 0 < lost)  :
    Calls Tryd.prog 16 #[.pointer (some ⟨g, 0, none⟩), cmdV 1 cas down x, ansV 1 y, .int .i64 lost] w fun e w' =>
      e = .returned (.tuple #[]) ∧ Blk w' g 62 (nums (bumps (evs N lost) (hits 1 1 cas down))) ∧ Upd (One g) w w' := by
  have hh : hits 1 1 cas down = [0, 4] := by simp [hits]
  have HH := Lib.hid hh; clear hh
  have c17 := old_cell hb 17 (by omega)
  have f17 := hb.frozen 17
  have c0 := old_cell hb 0 (by omega)
  have f0 := hb.frozen 0
  have c4 := old_cell hb 4 (by omega)
  have f4 := hb.frozen 4
  have hg := hb.lt
  have hg0 : g ≠ w.heap.size := by omega
  have hg1 : g ≠ w.heap.size + 1 := by omega
  have hg2 : w.heap.size ≠ g := by omega
  have hg3 : w.heap.size + 1 ≠ g := by omega
  unfold cmdV ansV
  have HN := Lib.hid hN; clear hN
  go_enter Tryd.func16, Tryd.ntmps16
  go_wp2
  go_region
  go_wp2
  go_region
  go_wp2
  go_region
  go_wp2
  go_end0
  rw [HH.out]
  refine ⟨rfl, ?_, ?_⟩
  · exact ((((hb.lost lost hl _ rfl).bump 0 (by omega) _ 1 (by rw [evs_ne _ _ _ (by decide)])).bump 4 (by omega) _ 1 (by rw [bump_ne _ _ _ _ (by decide), evs_ne _ _ _ (by decide)])).alloc _).alloc _
  · repeat (first | exact Upd.refl _ _ | refine Upd.drew ?_ | refine Upd.alloc ?_ _ | refine Upd.setOne ?_ _ _)

set_option maxHeartbeats 2000000 in
theorem count_get1_b (g : Nat) (N : Nat → Int) (hN : Rng N) (cas : Bool) (down : Bool) (lost : Int) (x y : Rest) (w : World) (hb : Blk w g 62 (nums N)) (hl : lost ≤ 0)  :
    Calls Tryd.prog 16 #[.pointer (some ⟨g, 0, none⟩), cmdV 1 cas down x, ansV 1 y, .int .i64 lost] w fun e w' =>
      e = .returned (.tuple #[]) ∧ Blk w' g 62 (nums (bumps (evs N lost) (hits 1 1 cas down))) ∧ Upd (One g) w w' := by
  have hh : hits 1 1 cas down = [0, 4] := by simp [hits]
  have HH := Lib.hid hh; clear hh
  have c17 := old_cell hb 17 (by omega)
  have f17 := hb.frozen 17
  have c0 := old_cell hb 0 (by omega)
  have f0 := hb.frozen 0
  have c4 := old_cell hb 4 (by omega)
  have f4 := hb.frozen 4
  have hg := hb.lt
  have hg0 : g ≠ w.heap.size := by omega
  have hg1 : g ≠ w.heap.size + 1 := by omega
  have hg2 : w.heap.size ≠ g := by omega
  have hg3 : w.heap.size + 1 ≠ g := by omega
  unfold cmdV ansV
  have HN := Lib.hid hN; clear hN
  go_enter Tryd.func16, Tryd.ntmps16
  go_wp2
  go_region
  go_wp2
  go_region
  go_wp2
  go_region
  go_wp2
  go_end0
  rw [HH.out]
  refine ⟨rfl, ?_, ?_⟩
  · exact ((((Blk.lost0 HN.out hb lost hl _ rfl).bump 0 (by omega) _ 1 (by rw [evs_ne _ _ _ (by decide)])).bump 4 (by omega) _ 1 (by rw [bump_ne _ _ _ _ (by decide), evs_ne _ _ _ (by decide)])).alloc _).alloc _
  · repeat (first | exact Upd.refl _ _ | refine Upd.drew ?_ | refine Upd.alloc ?_ _ | refine Upd.setOne ?_ _ _)

set_option maxHeartbeats 2000000 in
theorem count_get2_a (g : Nat) (N : Nat → Int) (hN : Rng N) (st : Int) (cas : Bool) (down : Bool) (lost : Int) (x y : Rest) (w : World) (hb : Blk w g 62 (nums N)) (hs1 : 1 ≤ st) (hs2 : st ≤ 12) (hl : 0 < lost) (ho : st ≠ 1) :
    Calls Tryd.prog 16 #[.pointer (some ⟨g, 0, none⟩), cmdV 1 cas down x, ansV st y, .int .i64 lost] w fun e w' =>
      e = .returned (.tuple #[]) ∧ Blk w' g 62 (nums (bumps (evs N lost) (hits 1 st cas down))) ∧ Upd (One g) w w' := by
  have hh : hits 1 st cas down = [0, 5] := by simp [hits, ho]
  have b1 : (st == 1) = false := by simpa using ho
  have HH := Lib.hid hh; clear hh
  have c17 := old_cell hb 17 (by omega)
  have f17 := hb.frozen 17
  have c0 := old_cell hb 0 (by omega)
  have f0 := hb.frozen 0
  have c5 := old_cell hb 5 (by omega)
  have f5 := hb.frozen 5
  have hg := hb.lt
  have hg0 : g ≠ w.heap.size := by omega
  have hg1 : g ≠ w.heap.size + 1 := by omega
  have hg2 : w.heap.size ≠ g := by omega
  have hg3 : w.heap.size + 1 ≠ g := by omega
  unfold cmdV ansV
  have HN := Lib.hid hN; clear hN
  go_enter Tryd.func16, Tryd.ntmps16
  go_wp2
  go_region
  go_wp2
  go_region
  go_wp2
  go_region
  go_wp2
  go_end0
  rw [HH.out]
  refine ⟨rfl, ?_, ?_⟩
  · exact ((((hb.lost lost hl _ rfl).bump 0 (by omega) _ 1 (by rw [evs_ne _ _ _ (by decide)])).bump 5 (by omega) _ 1 (by rw [bump_ne _ _ _ _ (by decide), evs_ne _ _ _ (by decide)])).alloc _).alloc _
  · repeat (first | exact Upd.refl _ _ | refine Upd.drew ?_ | refine Upd.alloc ?_ _ | refine Upd.setOne ?_ _ _)

set_option maxHeartbeats 2000000 in
theorem count_get2_b (g : Nat) (N : Nat → Int) (hN : Rng N) (st : Int) (cas : Bool) (down : Bool) (lost : Int) (x y : Rest) (w : World) (hb : Blk w g 62 (nums N)) (hs1 : 1 ≤ st) (hs2 : st ≤ 12) (hl : lost ≤ 0) (ho : st ≠ 1) :
    Calls Tryd.prog 16 #[.pointer (some ⟨g, 0, none⟩), cmdV 1 cas down x, ansV st y, .int .i64 lost] w fun e w' =>
      e = .returned (.tuple #[]) ∧ Blk w' g 62 (nums (bumps (evs N lost) (hits 1 st cas down))) ∧ Upd (One g) w w' := by
  have hh : hits 1 st cas down = [0, 5] := by simp [hits, ho]
  have b1 : (st == 1) = false := by simpa using ho
  have HH := Lib.hid hh; clear hh
  have c17 := old_cell hb 17 (by omega)
  have f17 := hb.frozen 17
  have c0 := old_cell hb 0 (by omega)
  have f0 := hb.frozen 0
  have c5 := old_cell hb 5 (by omega)
  have f5 := hb.frozen 5
  have hg := hb.lt
  have hg0 : g ≠ w.heap.size := by omega
  have hg1 : g ≠ w.heap.size + 1 := by omega
  have hg2 : w.heap.size ≠ g := by omega
  have hg3 : w.heap.size + 1 ≠ g := by omega
  unfold cmdV ansV
  have HN := Lib.hid hN; clear hN
  go_enter Tryd.func16, Tryd.ntmps16
  go_wp2
  go_region
  go_wp2
  go_region
  go_wp2
  go_region
  go_wp2
  go_end0
  rw [HH.out]
  refine ⟨rfl, ?_, ?_⟩
  · exact ((((Blk.lost0 HN.out hb lost hl _ rfl).bump 0 (by omega) _ 1 (by rw [evs_ne _ _ _ (by decide)])).bump 5 (by omega) _ 1 (by rw [bump_ne _ _ _ _ (by decide), evs_ne _ _ _ (by decide)])).alloc _).alloc _
  · repeat (first | exact Upd.refl _ _ | refine Upd.drew ?_ | refine Upd.alloc ?_ _ | refine Upd.setOne ?_ _ _)

set_option maxHeartbeats 2000000 in
theorem count_set1_a (g : Nat) (N : Nat → Int) (hN : Rng N) (st : Int) (down : Bool) (lost : Int) (x y : Rest) (w : World) (hb : Blk w g 62 (nums N)) (hs1 : 1 ≤ st) (hs2 : st ≤ 12) (hl : 0 < lost)  :
    Calls Tryd.prog 16 #[.pointer (some ⟨g, 0, none⟩), cmdV 2 true down x, ansV st y, .int .i64 lost] w fun e w' =>
      e = .returned (.tuple #[]) ∧ Blk w' g 62 (nums (bumps (evs N lost) (hits 2 st true down))) ∧ Upd (One g) w w' := by
  have hh : hits 2 st true down = 1 :: first lStore st := by simp [hits]
  have HH := Lib.hid hh; clear hh
  have c17 := old_cell hb 17 (by omega)
  have f17 := hb.frozen 17
  have c1 := old_cell hb 1 (by omega)
  have f1 := hb.frozen 1
  have hg := hb.lt
  have hg0 : g ≠ w.heap.size := by omega
  have hg1 : g ≠ w.heap.size + 1 := by omega
  have hg2 : w.heap.size ≠ g := by omega
  have hg3 : w.heap.size + 1 ≠ g := by omega
  unfold cmdV ansV
  have HN := Lib.hid hN; clear hN
  go_enter Tryd.func16, Tryd.ntmps16
  go_wp2
  go_region
  go_wp2
  go_region
  go_wp2_with fail
  have hB : ∀ o1 o2 o3, Blk ((((((w.setCell ⟨g, 17, none⟩ (.int .u64 (IntKind.u64.wrap (N 17 + IntKind.u64.wrap lost)))).setCell ⟨g, 1, none⟩ (.int .u64 (IntKind.u64.wrap (N 1 + 1)))).alloc o1).alloc o2).alloc o3)) g 62 (nums (bump (evs N lost) 1 1)) := fun o1 o2 o3 => ((((hb.lost lost hl _ rfl).bump 1 (by omega) _ 1 (by rw [evs_ne _ _ _ (by decide)])).alloc o1).alloc o2).alloc o3
  refine (one g _ (bump (evs N lost) 1 1) st lStore (by decide) _ (by decide) _ ?hB ?hS).mono ?_
  case hB => exact Blk.drew (Blk.drew (hB _ _ _))
  case hS => exact Blk.drew (Blk.drew ((Blk.new_at _ _ _ _ (by simp)).to rfl))
  rintro e w1 ⟨rfl, hb1, hu1⟩
  go_wp2
  go_end0
  rw [HH.out]
  refine ⟨rfl, hb1, Upd.same ?_ hu1⟩
  repeat (first | exact Upd.refl _ _ | refine Upd.drew ?_ | refine Upd.alloc ?_ _ | refine Upd.setOne ?_ _ _)

set_option maxHeartbeats 2000000 in
theorem count_set1_b (g : Nat) (N : Nat → Int) (hN : Rng N) (st : Int) (down : Bool) (lost : Int) (x y : Rest) (w : World) (hb : Blk w g 62 (nums N)) (hs1 : 1 ≤ st) (hs2 : st ≤ 12) (hl : lost ≤ 0)  :
    Calls Tryd.prog 16 #[.pointer (some ⟨g, 0, none⟩), cmdV 2 true down x, ansV st y, .int .i64 lost] w fun e w' =>
      e = .returned (.tuple #[]) ∧ Blk w' g 62 (nums (bumps (evs N lost) (hits 2 st true down))) ∧ Upd (One g) w w' := by
  have hh : hits 2 st true down = 1 :: first lStore st := by simp [hits]
  have HH := Lib.hid hh; clear hh
  have c17 := old_cell hb 17 (by omega)
  have f17 := hb.frozen 17
  have c1 := old_cell hb 1 (by omega)
  have f1 := hb.frozen 1
  have hg := hb.lt
  have hg0 : g ≠ w.heap.size := by omega
  have hg1 : g ≠ w.heap.size + 1 := by omega
  have hg2 : w.heap.size ≠ g := by omega
  have hg3 : w.heap.size + 1 ≠ g := by omega
  unfold cmdV ansV
  have HN := Lib.hid hN; clear hN
  go_enter Tryd.func16, Tryd.ntmps16
  go_wp2
  go_region
  go_wp2
  go_region
  go_wp2_with fail
  have hB : ∀ o1 o2 o3, Blk ((((((w.setCell ⟨g, 17, none⟩ (.int .u64 (IntKind.u64.wrap (N 17)))).setCell ⟨g, 1, none⟩ (.int .u64 (IntKind.u64.wrap (N 1 + 1)))).alloc o1).alloc o2).alloc o3)) g 62 (nums (bump (evs N lost) 1 1)) := fun o1 o2 o3 => ((((Blk.lost0 HN.out hb lost hl _ rfl).bump 1 (by omega) _ 1 (by rw [evs_ne _ _ _ (by decide)])).alloc o1).alloc o2).alloc o3
  refine (one g _ (bump (evs N lost) 1 1) st lStore (by decide) _ (by decide) _ ?hB ?hS).mono ?_
  case hB => exact Blk.drew (Blk.drew (hB _ _ _))
  case hS => exact Blk.drew (Blk.drew ((Blk.new_at _ _ _ _ (by simp)).to rfl))
  rintro e w1 ⟨rfl, hb1, hu1⟩
  go_wp2
  go_end0
  rw [HH.out]
  refine ⟨rfl, hb1, Upd.same ?_ hu1⟩
  repeat (first | exact Upd.refl _ _ | refine Upd.drew ?_ | refine Upd.alloc ?_ _ | refine Upd.setOne ?_ _ _)

set_option maxHeartbeats 2000000 in
theorem count_set2_a (g : Nat) (N : Nat → Int) (hN : Rng N) (st : Int) (down : Bool) (lost : Int) (x y : Rest) (w : World) (hb : Blk w g 62 (nums N)) (hs1 : 1 ≤ st) (hs2 : st ≤ 12) (hl : 0 < lost)  :
    Calls Tryd.prog 16 #[.pointer (some ⟨g, 0, none⟩), cmdV 2 false down x, ansV st y, .int .i64 lost] w fun e w' =>
      e = .returned (.tuple #[]) ∧ Blk w' g 62 (nums (bumps (evs N lost) (hits 2 st false down))) ∧ Upd (One g) w w' := by
  have hh : hits 2 st false down = [1] := by simp [hits]
  have HH := Lib.hid hh; clear hh
  have c17 := old_cell hb 17 (by omega)
  have f17 := hb.frozen 17
  have c1 := old_cell hb 1 (by omega)
  have f1 := hb.frozen 1
  have hg := hb.lt
  have hg0 : g ≠ w.heap.size := by omega
  have hg1 : g ≠ w.heap.size + 1 := by omega
  have hg2 : w.heap.size ≠ g := by omega
  have hg3 : w.heap.size + 1 ≠ g := by omega
  unfold cmdV ansV
  have HN := Lib.hid hN; clear hN
  go_enter Tryd.func16, Tryd.ntmps16
  go_wp2
  go_region
  go_wp2
  go_region
  go_wp2
  go_end0
  rw [HH.out]
  refine ⟨rfl, ?_, ?_⟩
  · exact (((hb.lost lost hl _ rfl).bump 1 (by omega) _ 1 (by rw [evs_ne _ _ _ (by decide)])).alloc _).alloc _
  · repeat (first | exact Upd.refl _ _ | refine Upd.drew ?_ | refine Upd.alloc ?_ _ | refine Upd.setOne ?_ _ _)

set_option maxHeartbeats 2000000 in
theorem count_set2_b (g : Nat) (N : Nat → Int) (hN : Rng N) (st : Int) (down : Bool) (lost : Int) (x y : Rest) (w : World) (hb : Blk w g 62 (nums N)) (hs1 : 1 ≤ st) (hs2 : st ≤ 12) (hl : lost ≤ 0)  :
    Calls Tryd.prog 16 #[.pointer (some ⟨g, 0, none⟩), cmdV 2 false down x, ansV st y, .int .i64 lost] w fun e w' =>
      e = .returned (.tuple #[]) ∧ Blk w' g 62 (nums (bumps (evs N lost) (hits 2 st false down))) ∧ Upd (One g) w w' := by
  have hh : hits 2 st false down = [1] := by simp [hits]
  have HH := Lib.hid hh; clear hh
  have c17 := old_cell hb 17 (by omega)
  have f17 := hb.frozen 17
  have c1 := old_cell hb 1 (by omega)
  have f1 := hb.frozen 1
  have hg := hb.lt
  have hg0 : g ≠ w.heap.size := by omega
  have hg1 : g ≠ w.heap.size + 1 := by omega
  have hg2 : w.heap.size ≠ g := by omega
  have hg3 : w.heap.size + 1 ≠ g := by omega
  unfold cmdV ansV
  have HN := Lib.hid hN; clear hN
  go_enter Tryd.func16, Tryd.ntmps16
  go_wp2
  go_region
  go_wp2
  go_region
  go_wp2
  go_end0
  rw [HH.out]
  refine ⟨rfl, ?_, ?_⟩
  · exact (((Blk.lost0 HN.out hb lost hl _ rfl).bump 1 (by omega) _ 1 (by rw [evs_ne _ _ _ (by decide)])).alloc _).alloc _
  · repeat (first | exact Upd.refl _ _ | refine Upd.drew ?_ | refine Upd.alloc ?_ _ | refine Upd.setOne ?_ _ _)

set_option maxHeartbeats 2000000 in
theorem count_touch_a (g : Nat) (N : Nat → Int) (hN : Rng N) (st : Int) (cas : Bool) (down : Bool) (lost : Int) (x y : Rest) (w : World) (hb : Blk w g 62 (nums N)) (hs1 : 1 ≤ st) (hs2 : st ≤ 12) (hl : 0 < lost)  :
    Calls Tryd.prog 16 #[.pointer (some ⟨g, 0, none⟩), cmdV 4 cas down x, ansV st y, .int .i64 lost] w fun e w' =>
      e = .returned (.tuple #[]) ∧ Blk w' g 62 (nums (bumps (evs N lost) (hits 4 st cas down))) ∧ Upd (One g) w w' := by
  have hh : hits 4 st cas down = 2 :: first lTouch st := by simp [hits]
  have HH := Lib.hid hh; clear hh
  have c17 := old_cell hb 17 (by omega)
  have f17 := hb.frozen 17
  have c2 := old_cell hb 2 (by omega)
  have f2 := hb.frozen 2
  have hg := hb.lt
  have hg0 : g ≠ w.heap.size := by omega
  have hg1 : g ≠ w.heap.size + 1 := by omega
  have hg2 : w.heap.size ≠ g := by omega
  have hg3 : w.heap.size + 1 ≠ g := by omega
  unfold cmdV ansV
  have HN := Lib.hid hN; clear hN
  go_enter Tryd.func16, Tryd.ntmps16
  go_wp2
  go_region
  go_wp2
  go_region
  go_wp2_with fail
  have hB : ∀ o1 o2 o3, Blk ((((((w.setCell ⟨g, 17, none⟩ (.int .u64 (IntKind.u64.wrap (N 17 + IntKind.u64.wrap lost)))).setCell ⟨g, 2, none⟩ (.int .u64 (IntKind.u64.wrap (N 2 + 1)))).alloc o1).alloc o2).alloc o3)) g 62 (nums (bump (evs N lost) 2 1)) := fun o1 o2 o3 => ((((hb.lost lost hl _ rfl).bump 2 (by omega) _ 1 (by rw [evs_ne _ _ _ (by decide)])).alloc o1).alloc o2).alloc o3
  refine (one g _ (bump (evs N lost) 2 1) st lTouch (by decide) _ (by decide) _ ?hB ?hS).mono ?_
  case hB => exact Blk.drew (Blk.drew (hB _ _ _))
  case hS => exact Blk.drew (Blk.drew ((Blk.new_at _ _ _ _ (by simp)).to rfl))
  rintro e w1 ⟨rfl, hb1, hu1⟩
  go_wp2
  go_end0
  rw [HH.out]
  refine ⟨rfl, hb1, Upd.same ?_ hu1⟩
  repeat (first | exact Upd.refl _ _ | refine Upd.drew ?_ | refine Upd.alloc ?_ _ | refine Upd.setOne ?_ _ _)

set_option maxHeartbeats 2000000 in
theorem count_touch_b (g : Nat) (N : Nat → Int) (hN : Rng N) (st : Int) (cas : Bool) (down : Bool) (lost : Int) (x y : Rest) (w : World) (hb : Blk w g 62 (nums N)) (hs1 : 1 ≤ st) (hs2 : st ≤ 12) (hl : lost ≤ 0)  :
    Calls Tryd.prog 16 #[.pointer (some ⟨g, 0, none⟩), cmdV 4 cas down x, ansV st y, .int .i64 lost] w fun e w' =>
      e = .returned (.tuple #[]) ∧ Blk w' g 62 (nums (bumps (evs N lost) (hits 4 st cas down))) ∧ Upd (One g) w w' := by
  have hh : hits 4 st cas down = 2 :: first lTouch st := by simp [hits]
  have HH := Lib.hid hh; clear hh
  have c17 := old_cell hb 17 (by omega)
  have f17 := hb.frozen 17
  have c2 := old_cell hb 2 (by omega)
  have f2 := hb.frozen 2
  have hg := hb.lt
  have hg0 : g ≠ w.heap.size := by omega
  have hg1 : g ≠ w.heap.size + 1 := by omega
  have hg2 : w.heap.size ≠ g := by omega
  have hg3 : w.heap.size + 1 ≠ g := by omega
  unfold cmdV ansV
  have HN := Lib.hid hN; clear hN
  go_enter Tryd.func16, Tryd.ntmps16
  go_wp2
  go_region
  go_wp2
  go_region
  go_wp2_with fail
  have hB : ∀ o1 o2 o3, Blk ((((((w.setCell ⟨g, 17, none⟩ (.int .u64 (IntKind.u64.wrap (N 17)))).setCell ⟨g, 2, none⟩ (.int .u64 (IntKind.u64.wrap (N 2 + 1)))).alloc o1).alloc o2).alloc o3)) g 62 (nums (bump (evs N lost) 2 1)) := fun o1 o2 o3 => ((((Blk.lost0 HN.out hb lost hl _ rfl).bump 2 (by omega) _ 1 (by rw [evs_ne _ _ _ (by decide)])).alloc o1).alloc o2).alloc o3
  refine (one g _ (bump (evs N lost) 2 1) st lTouch (by decide) _ (by decide) _ ?hB ?hS).mono ?_
  case hB => exact Blk.drew (Blk.drew (hB _ _ _))
  case hS => exact Blk.drew (Blk.drew ((Blk.new_at _ _ _ _ (by simp)).to rfl))
  rintro e w1 ⟨rfl, hb1, hu1⟩
  go_wp2
  go_end0
  rw [HH.out]
  refine ⟨rfl, hb1, Upd.same ?_ hu1⟩
  repeat (first | exact Upd.refl _ _ | refine Upd.drew ?_ | refine Upd.alloc ?_ _ | refine Upd.setOne ?_ _ _)

set_option maxHeartbeats 2000000 in
theorem count_flush_a (g : Nat) (N : Nat → Int) (hN : Rng N) (st : Int) (cas : Bool) (down : Bool) (lost : Int) (x y : Rest) (w : World) (hb : Blk w g 62 (nums N)) (hs1 : 1 ≤ st) (hs2 : st ≤ 12) (hl : 0 < lost)  :
    Calls Tryd.prog 16 #[.pointer (some ⟨g, 0, none⟩), cmdV 6 cas down x, ansV st y, .int .i64 lost] w fun e w' =>
      e = .returned (.tuple #[]) ∧ Blk w' g 62 (nums (bumps (evs N lost) (hits 6 st cas down))) ∧ Upd (One g) w w' := by
  have hh : hits 6 st cas down = [3] := by simp [hits]
  have HH := Lib.hid hh; clear hh
  have c17 := old_cell hb 17 (by omega)
  have f17 := hb.frozen 17
  have c3 := old_cell hb 3 (by omega)
  have f3 := hb.frozen 3
  have hg := hb.lt
  have hg0 : g ≠ w.heap.size := by omega
  have hg1 : g ≠ w.heap.size + 1 := by omega
  have hg2 : w.heap.size ≠ g := by omega
  have hg3 : w.heap.size + 1 ≠ g := by omega
  unfold cmdV ansV
  have HN := Lib.hid hN; clear hN
  go_enter Tryd.func16, Tryd.ntmps16
  go_wp2
  go_region
  go_wp2
  go_region
  go_wp2
  go_end0
  rw [HH.out]
  refine ⟨rfl, ?_, ?_⟩
  · exact (((hb.lost lost hl _ rfl).bump 3 (by omega) _ 1 (by rw [evs_ne _ _ _ (by decide)])).alloc _).alloc _
  · repeat (first | exact Upd.refl _ _ | refine Upd.drew ?_ | refine Upd.alloc ?_ _ | refine Upd.setOne ?_ _ _)

set_option maxHeartbeats 2000000 in
theorem count_flush_b (g : Nat) (N : Nat → Int) (hN : Rng N) (st : Int) (cas : Bool) (down : Bool) (lost : Int) (x y : Rest) (w : World) (hb : Blk w g 62 (nums N)) (hs1 : 1 ≤ st) (hs2 : st ≤ 12) (hl : lost ≤ 0)  :
    Calls Tryd.prog 16 #[.pointer (some ⟨g, 0, none⟩), cmdV 6 cas down x, ansV st y, .int .i64 lost] w fun e w' =>
      e = .returned (.tuple #[]) ∧ Blk w' g 62 (nums (bumps (evs N lost) (hits 6 st cas down))) ∧ Upd (One g) w w' := by
  have hh : hits 6 st cas down = [3] := by simp [hits]
  have HH := Lib.hid hh; clear hh
  have c17 := old_cell hb 17 (by omega)
  have f17 := hb.frozen 17
  have c3 := old_cell hb 3 (by omega)
  have f3 := hb.frozen 3
  have hg := hb.lt
  have hg0 : g ≠ w.heap.size := by omega
  have hg1 : g ≠ w.heap.size + 1 := by omega
  have hg2 : w.heap.size ≠ g := by omega
  have hg3 : w.heap.size + 1 ≠ g := by omega
  unfold cmdV ansV
  have HN := Lib.hid hN; clear hN
  go_enter Tryd.func16, Tryd.ntmps16
  go_wp2
  go_region
  go_wp2
  go_region
  go_wp2
  go_end0
  rw [HH.out]
  refine ⟨rfl, ?_, ?_⟩
  · exact (((Blk.lost0 HN.out hb lost hl _ rfl).bump 3 (by omega) _ 1 (by rw [evs_ne _ _ _ (by decide)])).alloc _).alloc _
  · repeat (first | exact Upd.refl _ _ | refine Upd.drew ?_ | refine Upd.alloc ?_ _ | refine Upd.setOne ?_ _ _)

set_option maxHeartbeats 2000000 in
theorem count_delete_a (g : Nat) (N : Nat → Int) (hN : Rng N) (st : Int) (cas : Bool) (down : Bool) (lost : Int) (x y : Rest) (w : World) (hb : Blk w g 62 (nums N)) (hs1 : 1 ≤ st) (hs2 : st ≤ 12) (hl : 0 < lost)  :
    Calls Tryd.prog 16 #[.pointer (some ⟨g, 0, none⟩), cmdV 5 cas down x, ansV st y, .int .i64 lost] w fun e w' =>
      e = .returned (.tuple #[]) ∧ Blk w' g 62 (nums (bumps (evs N lost) (hits 5 st cas down))) ∧ Upd (One g) w w' := by
  have hh : hits 5 st cas down = first lDelete st := by simp [hits]
  have HH := Lib.hid hh; clear hh
  have c17 := old_cell hb 17 (by omega)
  have f17 := hb.frozen 17
  have hg := hb.lt
  have hg0 : g ≠ w.heap.size := by omega
  have hg1 : g ≠ w.heap.size + 1 := by omega
  have hg2 : w.heap.size ≠ g := by omega
  have hg3 : w.heap.size + 1 ≠ g := by omega
  unfold cmdV ansV
  have HN := Lib.hid hN; clear hN
  go_enter Tryd.func16, Tryd.ntmps16
  go_wp2
  go_region
  go_wp2_with fail
  have hB : ∀ o1 o2 o3, Blk (((((w.setCell ⟨g, 17, none⟩ (.int .u64 (IntKind.u64.wrap (N 17 + IntKind.u64.wrap lost)))).alloc o1).alloc o2).alloc o3)) g 62 (nums (evs N lost)) := fun o1 o2 o3 => (((hb.lost lost hl _ rfl).alloc o1).alloc o2).alloc o3
  refine (one g _ (evs N lost) st lDelete (by decide) _ (by decide) _ ?hB ?hS).mono ?_
  case hB => exact Blk.drew (hB _ _ _)
  case hS => exact Blk.drew ((Blk.new_at _ _ _ _ (by simp)).to rfl)
  rintro e w1 ⟨rfl, hb1, hu1⟩
  go_wp2
  go_end0
  rw [HH.out]
  refine ⟨rfl, hb1, Upd.same ?_ hu1⟩
  repeat (first | exact Upd.refl _ _ | refine Upd.drew ?_ | refine Upd.alloc ?_ _ | refine Upd.setOne ?_ _ _)

set_option maxHeartbeats 2000000 in
theorem count_delete_b (g : Nat) (N : Nat → Int) (hN : Rng N) (st : Int) (cas : Bool) (down : Bool) (lost : Int) (x y : Rest) (w : World) (hb : Blk w g 62 (nums N)) (hs1 : 1 ≤ st) (hs2 : st ≤ 12) (hl : lost ≤ 0)  :
    Calls Tryd.prog 16 #[.pointer (some ⟨g, 0, none⟩), cmdV 5 cas down x, ansV st y, .int .i64 lost] w fun e w' =>
      e = .returned (.tuple #[]) ∧ Blk w' g 62 (nums (bumps (evs N lost) (hits 5 st cas down))) ∧ Upd (One g) w w' := by
  have hh : hits 5 st cas down = first lDelete st := by simp [hits]
  have HH := Lib.hid hh; clear hh
  have c17 := old_cell hb 17 (by omega)
  have f17 := hb.frozen 17
  have hg := hb.lt
  have hg0 : g ≠ w.heap.size := by omega
  have hg1 : g ≠ w.heap.size + 1 := by omega
  have hg2 : w.heap.size ≠ g := by omega
  have hg3 : w.heap.size + 1 ≠ g := by omega
  unfold cmdV ansV
  have HN := Lib.hid hN; clear hN
  go_enter Tryd.func16, Tryd.ntmps16
  go_wp2
  go_region
  go_wp2_with fail
  have hB : ∀ o1 o2 o3, Blk (((((w.setCell ⟨g, 17, none⟩ (.int .u64 (IntKind.u64.wrap (N 17)))).alloc o1).alloc o2).alloc o3)) g 62 (nums (evs N lost)) := fun o1 o2 o3 => (((Blk.lost0 HN.out hb lost hl _ rfl).alloc o1).alloc o2).alloc o3
  refine (one g _ (evs N lost) st lDelete (by decide) _ (by decide) _ ?hB ?hS).mono ?_
  case hB => exact Blk.drew (hB _ _ _)
  case hS => exact Blk.drew ((Blk.new_at _ _ _ _ (by simp)).to rfl)
  rintro e w1 ⟨rfl, hb1, hu1⟩
  go_wp2
  go_end0
  rw [HH.out]
  refine ⟨rfl, hb1, Upd.same ?_ hu1⟩
  repeat (first | exact Upd.refl _ _ | refine Upd.drew ?_ | refine Upd.alloc ?_ _ | refine Upd.setOne ?_ _ _)

set_option maxHeartbeats 2000000 in
theorem count_math1_a (g : Nat) (N : Nat → Int) (hN : Rng N) (st : Int) (cas : Bool) (lost : Int) (x y : Rest) (w : World) (hb : Blk w g 62 (nums N)) (hs1 : 1 ≤ st) (hs2 : st ≤ 12) (hl : 0 < lost)  :
    Calls Tryd.prog 16 #[.pointer (some ⟨g, 0, none⟩), cmdV 3 cas true x, ansV st y, .int .i64 lost] w fun e w' =>
      e = .returned (.tuple #[]) ∧ Blk w' g 62 (nums (bumps (evs N lost) (hits 3 st cas true))) ∧ Upd (One g) w w' := by
  have hh : hits 3 st cas true = first lDecr st := by simp [hits]
  have HH := Lib.hid hh; clear hh
  have c17 := old_cell hb 17 (by omega)
  have f17 := hb.frozen 17
  have hg := hb.lt
  have hg0 : g ≠ w.heap.size := by omega
  have hg1 : g ≠ w.heap.size + 1 := by omega
  have hg2 : w.heap.size ≠ g := by omega
  have hg3 : w.heap.size + 1 ≠ g := by omega
  unfold cmdV ansV
  have HN := Lib.hid hN; clear hN
  go_enter Tryd.func16, Tryd.ntmps16
  go_wp2
  go_region
  go_wp2_with fail
  have hB : ∀ o1 o2 o3, Blk (((((w.setCell ⟨g, 17, none⟩ (.int .u64 (IntKind.u64.wrap (N 17 + IntKind.u64.wrap lost)))).alloc o1).alloc o2).alloc o3)) g 62 (nums (evs N lost)) := fun o1 o2 o3 => (((hb.lost lost hl _ rfl).alloc o1).alloc o2).alloc o3
  refine (one g _ (evs N lost) st lDecr (by decide) _ (by decide) _ ?hB ?hS).mono ?_
  case hB => exact Blk.drew (hB _ _ _)
  case hS => exact Blk.drew ((Blk.new_at _ _ _ _ (by simp)).to rfl)
  rintro e w1 ⟨rfl, hb1, hu1⟩
  go_wp2
  go_end0
  rw [HH.out]
  refine ⟨rfl, hb1, Upd.same ?_ hu1⟩
  repeat (first | exact Upd.refl _ _ | refine Upd.drew ?_ | refine Upd.alloc ?_ _ | refine Upd.setOne ?_ _ _)

set_option maxHeartbeats 2000000 in
theorem count_math1_b (g : Nat) (N : Nat → Int) (hN : Rng N) (st : Int) (cas : Bool) (lost : Int) (x y : Rest) (w : World) (hb : Blk w g 62 (nums N)) (hs1 : 1 ≤ st) (hs2 : st ≤ 12) (hl : lost ≤ 0)  :
    Calls Tryd.prog 16 #[.pointer (some ⟨g, 0, none⟩), cmdV 3 cas true x, ansV st y, .int .i64 lost] w fun e w' =>
      e = .returned (.tuple #[]) ∧ Blk w' g 62 (nums (bumps (evs N lost) (hits 3 st cas true))) ∧ Upd (One g) w w' := by
  have hh : hits 3 st cas true = first lDecr st := by simp [hits]
  have HH := Lib.hid hh; clear hh
  have c17 := old_cell hb 17 (by omega)
  have f17 := hb.frozen 17
  have hg := hb.lt
  have hg0 : g ≠ w.heap.size := by omega
  have hg1 : g ≠ w.heap.size + 1 := by omega
  have hg2 : w.heap.size ≠ g := by omega
  have hg3 : w.heap.size + 1 ≠ g := by omega
  unfold cmdV ansV
  have HN := Lib.hid hN; clear hN
  go_enter Tryd.func16, Tryd.ntmps16
  go_wp2
  go_region
  go_wp2_with fail
  have hB : ∀ o1 o2 o3, Blk (((((w.setCell ⟨g, 17, none⟩ (.int .u64 (IntKind.u64.wrap (N 17)))).alloc o1).alloc o2).alloc o3)) g 62 (nums (evs N lost)) := fun o1 o2 o3 => (((Blk.lost0 HN.out hb lost hl _ rfl).alloc o1).alloc o2).alloc o3
  refine (one g _ (evs N lost) st lDecr (by decide) _ (by decide) _ ?hB ?hS).mono ?_
  case hB => exact Blk.drew (hB _ _ _)
  case hS => exact Blk.drew ((Blk.new_at _ _ _ _ (by simp)).to rfl)
  rintro e w1 ⟨rfl, hb1, hu1⟩
  go_wp2
  go_end0
  rw [HH.out]
  refine ⟨rfl, hb1, Upd.same ?_ hu1⟩
  repeat (first | exact Upd.refl _ _ | refine Upd.drew ?_ | refine Upd.alloc ?_ _ | refine Upd.setOne ?_ _ _)

set_option maxHeartbeats 2000000 in
theorem count_math2_a (g : Nat) (N : Nat → Int) (hN : Rng N) (st : Int) (cas : Bool) (lost : Int) (x y : Rest) (w : World) (hb : Blk w g 62 (nums N)) (hs1 : 1 ≤ st) (hs2 : st ≤ 12) (hl : 0 < lost)  :
    Calls Tryd.prog 16 #[.pointer (some ⟨g, 0, none⟩), cmdV 3 cas false x, ansV st y, .int .i64 lost] w fun e w' =>
      e = .returned (.tuple #[]) ∧ Blk w' g 62 (nums (bumps (evs N lost) (hits 3 st cas false))) ∧ Upd (One g) w w' := by
  have hh : hits 3 st cas false = first lIncr st := by simp [hits]
  have HH := Lib.hid hh; clear hh
  have c17 := old_cell hb 17 (by omega)
  have f17 := hb.frozen 17
  have hg := hb.lt
  have hg0 : g ≠ w.heap.size := by omega
  have hg1 : g ≠ w.heap.size + 1 := by omega
  have hg2 : w.heap.size ≠ g := by omega
  have hg3 : w.heap.size + 1 ≠ g := by omega
  unfold cmdV ansV
  have HN := Lib.hid hN; clear hN
  go_enter Tryd.func16, Tryd.ntmps16
  go_wp2
  go_region
  go_wp2_with fail
  have hB : ∀ o1 o2 o3, Blk (((((w.setCell ⟨g, 17, none⟩ (.int .u64 (IntKind.u64.wrap (N 17 + IntKind.u64.wrap lost)))).alloc o1).alloc o2).alloc o3)) g 62 (nums (evs N lost)) := fun o1 o2 o3 => (((hb.lost lost hl _ rfl).alloc o1).alloc o2).alloc o3
  refine (one g _ (evs N lost) st lIncr (by decide) _ (by decide) _ ?hB ?hS).mono ?_
  case hB => exact Blk.drew (hB _ _ _)
  case hS => exact Blk.drew ((Blk.new_at _ _ _ _ (by simp)).to rfl)
  rintro e w1 ⟨rfl, hb1, hu1⟩
  go_wp2
  go_end0
  rw [HH.out]
  refine ⟨rfl, hb1, Upd.same ?_ hu1⟩
  repeat (first | exact Upd.refl _ _ | refine Upd.drew ?_ | refine Upd.alloc ?_ _ | refine Upd.setOne ?_ _ _)

set_option maxHeartbeats 2000000 in
theorem count_math2_b (g : Nat) (N : Nat → Int) (hN : Rng N) (st : Int) (cas : Bool) (lost : Int) (x y : Rest) (w : World) (hb : Blk w g 62 (nums N)) (hs1 : 1 ≤ st) (hs2 : st ≤ 12) (hl : lost ≤ 0)  :
    Calls Tryd.prog 16 #[.pointer (some ⟨g, 0, none⟩), cmdV 3 cas false x, ansV st y, .int .i64 lost] w fun e w' =>
      e = .returned (.tuple #[]) ∧ Blk w' g 62 (nums (bumps (evs N lost) (hits 3 st cas false))) ∧ Upd (One g) w w' := by
  have hh : hits 3 st cas false = first lIncr st := by simp [hits]
  have HH := Lib.hid hh; clear hh
  have c17 := old_cell hb 17 (by omega)
  have f17 := hb.frozen 17
  have hg := hb.lt
  have hg0 : g ≠ w.heap.size := by omega
  have hg1 : g ≠ w.heap.size + 1 := by omega
  have hg2 : w.heap.size ≠ g := by omega
  have hg3 : w.heap.size + 1 ≠ g := by omega
  unfold cmdV ansV
  have HN := Lib.hid hN; clear hN
  go_enter Tryd.func16, Tryd.ntmps16
  go_wp2
  go_region
  go_wp2_with fail
  have hB : ∀ o1 o2 o3, Blk (((((w.setCell ⟨g, 17, none⟩ (.int .u64 (IntKind.u64.wrap (N 17)))).alloc o1).alloc o2).alloc o3)) g 62 (nums (evs N lost)) := fun o1 o2 o3 => (((Blk.lost0 HN.out hb lost hl _ rfl).alloc o1).alloc o2).alloc o3
  refine (one g _ (evs N lost) st lIncr (by decide) _ (by decide) _ ?hB ?hS).mono ?_
  case hB => exact Blk.drew (hB _ _ _)
  case hS => exact Blk.drew ((Blk.new_at _ _ _ _ (by simp)).to rfl)
  rintro e w1 ⟨rfl, hb1, hu1⟩
  go_wp2
  go_end0
  rw [HH.out]
  refine ⟨rfl, hb1, Upd.same ?_ hu1⟩
  repeat (first | exact Upd.refl _ _ | refine Upd.drew ?_ | refine Upd.alloc ?_ _ | refine Upd.setOne ?_ _ _)

set_option maxHeartbeats 2000000 in
theorem count_other_a (g : Nat) (N : Nat → Int) (hN : Rng N) (op : Int) (st : Int) (cas : Bool) (down : Bool) (lost : Int) (x y : Rest) (w : World) (hb : Blk w g 62 (nums N)) (hs1 : 1 ≤ st) (hs2 : st ≤ 12) (hl : 0 < lost) (ho : op ≠ 1 ∧ op ≠ 2 ∧ op ≠ 3 ∧ op ≠ 4 ∧ op ≠ 5 ∧ op ≠ 6) :
    Calls Tryd.prog 16 #[.pointer (some ⟨g, 0, none⟩), cmdV op cas down x, ansV st y, .int .i64 lost] w fun e w' =>
      e = .returned (.tuple #[]) ∧ Blk w' g 62 (nums (bumps (evs N lost) (hits op st cas down))) ∧ Upd (One g) w w' := by
  obtain ⟨o1, o2, o3, o4, o5, o6⟩ := ho
  have hh : hits op st cas down = [] := by simp [hits, *]
  have b1 : (op == 1) = false := by simpa using o1
  have b2 : (op == 2) = false := by simpa using o2
  have b3 : (op == 3) = false := by simpa using o3
  have b4 : (op == 4) = false := by simpa using o4
  have b5 : (op == 5) = false := by simpa using o5
  have b6 : (op == 6) = false := by simpa using o6
  have HH := Lib.hid hh; clear hh
  have c17 := old_cell hb 17 (by omega)
  have f17 := hb.frozen 17
  have hg := hb.lt
  have hg0 : g ≠ w.heap.size := by omega
  have hg1 : g ≠ w.heap.size + 1 := by omega
  have hg2 : w.heap.size ≠ g := by omega
  have hg3 : w.heap.size + 1 ≠ g := by omega
  unfold cmdV ansV
  have HN := Lib.hid hN; clear hN
  go_enter Tryd.func16, Tryd.ntmps16
  go_wp2
  go_region
  go_wp2
  go_end0
  rw [HH.out]
  refine ⟨rfl, ?_, ?_⟩
  · exact ((hb.lost lost hl _ rfl).alloc _).alloc _
  · repeat (first | exact Upd.refl _ _ | refine Upd.drew ?_ | refine Upd.alloc ?_ _ | refine Upd.setOne ?_ _ _)

set_option maxHeartbeats 2000000 in
theorem count_other_b (g : Nat) (N : Nat → Int) (hN : Rng N) (op : Int) (st : Int) (cas : Bool) (down : Bool) (lost : Int) (x y : Rest) (w : World) (hb : Blk w g 62 (nums N)) (hs1 : 1 ≤ st) (hs2 : st ≤ 12) (hl : lost ≤ 0) (ho : op ≠ 1 ∧ op ≠ 2 ∧ op ≠ 3 ∧ op ≠ 4 ∧ op ≠ 5 ∧ op ≠ 6) :
    Calls Tryd.prog 16 #[.pointer (some ⟨g, 0, none⟩), cmdV op cas down x, ansV st y, .int .i64 lost] w fun e w' =>
      e = .returned (.tuple #[]) ∧ Blk w' g 62 (nums (bumps (evs N lost) (hits op st cas down))) ∧ Upd (One g) w w' := by
  obtain ⟨o1, o2, o3, o4, o5, o6⟩ := ho
  have hh : hits op st cas down = [] := by simp [hits, *]
  have b1 : (op == 1) = false := by simpa using o1
  have b2 : (op == 2) = false := by simpa using o2
  have b3 : (op == 3) = false := by simpa using o3
  have b4 : (op == 4) = false := by simpa using o4
  have b5 : (op == 5) = false := by simpa using o5
  have b6 : (op == 6) = false := by simpa using o6
  have HH := Lib.hid hh; clear hh
  have c17 := old_cell hb 17 (by omega)
  have f17 := hb.frozen 17
  have hg := hb.lt
  have hg0 : g ≠ w.heap.size := by omega
  have hg1 : g ≠ w.heap.size + 1 := by omega
  have hg2 : w.heap.size ≠ g := by omega
  have hg3 : w.heap.size + 1 ≠ g := by omega
  unfold cmdV ansV
  have HN := Lib.hid hN; clear hN
  go_enter Tryd.func16, Tryd.ntmps16
  go_wp2
  go_region
  go_wp2
  go_end0
  rw [HH.out]
  refine ⟨rfl, ?_, ?_⟩
  · exact ((Blk.lost0 HN.out hb lost hl _ rfl).alloc _).alloc _
  · repeat (first | exact Upd.refl _ _ | refine Upd.drew ?_ | refine Upd.alloc ?_ _ | refine Upd.setOne ?_ _ _)
end Go.Proofs.YtjfkfnlnjklcdaaDoor
