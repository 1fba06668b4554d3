/- Counting: one command is counted alike by stats.Count and by its reference. -/
import Derived.Test.YtjfkfnlnjklcdaaDoorStatC
namespace Go.Proofs.YtjfkfnlnjklcdaaDoor
open Go.RowKit

theorem count_lo (g : Nat) (N : Nat → Int) (op st : Int) (cas down : Bool) (lost : Int) (x y : Rest) (w : World) (hb : Blk w g 62 (nums N)) (h : st < 1) :
    Calls Tryd.prog 16 #[.pointer (some ⟨g, 0, none⟩), cmdV op cas down x, ansV st y, .int .i64 lost] w fun e w' =>
      e = .returned (.tuple #[]) ∧ Blk w' g 62 (nums N) ∧ Upd (One g) w w' := by
  unfold cmdV ansV
  go_enter Tryd.func16, Tryd.ntmps16
  go_wp2
  refine bodyPost_ret (results_none rfl _ _ _) rfl ?_
  exact ⟨rfl, (hb.alloc _).alloc _, ((Upd.refl _ _).alloc _).alloc _⟩

theorem count_hi (g : Nat) (N : Nat → Int) (op st : Int) (cas down : Bool) (lost : Int) (x y : Rest) (w : World) (hb : Blk w g 62 (nums N)) (h : 12 < st) :
    Calls Tryd.prog 16 #[.pointer (some ⟨g, 0, none⟩), cmdV op cas down x, ansV st y, .int .i64 lost] w fun e w' =>
      e = .returned (.tuple #[]) ∧ Blk w' g 62 (nums N) ∧ Upd (One g) w w' := by
  unfold cmdV ansV
  go_enter Tryd.func16, Tryd.ntmps16
  go_wp2
  refine bodyPost_ret (results_none rfl _ _ _) rfl ?_
  exact ⟨rfl, (hb.alloc _).alloc _, ((Upd.refl _ _).alloc _).alloc _⟩

theorem count (g : Nat) (N : Nat → Int) (hN : Rng N) (op st : Int) (cas down : Bool) (lost : Int) (x y : Rest) (w : World) (hb : Blk w g 62 (nums N)) :
    Calls Tryd.prog 16 #[.pointer (some ⟨g, 0, none⟩), cmdV op cas down x, ansV st y, .int .i64 lost] w fun e w' =>
      e = .returned (.tuple #[]) ∧ Blk w' g 62 (nums (step op st lost cas down N)) ∧ Upd (One g) w w' := by
  unfold step
  by_cases hlo : st < 1
  · rw [if_pos (.inl hlo)]; exact count_lo g N op st cas down lost x y w hb hlo
  by_cases hhi : 12 < st
  · rw [if_pos (.inr hhi)]; exact count_hi g N op st cas down lost x y w hb hhi
  rw [if_neg (by omega)]
  have h1 : 1 ≤ st := by omega
  have h2 : st ≤ 12 := by omega
  by_cases hl : 0 < lost
  · by_cases o1 : op = 1
    · subst o1
      by_cases s1 : st = 1
      · subst s1; exact count_get1_a g N hN cas down lost x y w hb hl
      · exact count_get2_a g N hN st cas down lost x y w hb h1 h2 hl s1
    by_cases o2 : op = 2
    · subst o2
      cases cas
      · exact count_set2_a g N hN st down lost x y w hb h1 h2 hl
      · exact count_set1_a g N hN st down lost x y w hb h1 h2 hl
    by_cases o3 : op = 3
    · subst o3
      cases down
      · exact count_math2_a g N hN st cas lost x y w hb h1 h2 hl
      · exact count_math1_a g N hN st cas lost x y w hb h1 h2 hl
    by_cases o4 : op = 4
    · subst o4; exact count_touch_a g N hN st cas down lost x y w hb h1 h2 hl
    by_cases o5 : op = 5
    · subst o5; exact count_delete_a g N hN st cas down lost x y w hb h1 h2 hl
    by_cases o6 : op = 6
    · subst o6; exact count_flush_a g N hN st cas down lost x y w hb h1 h2 hl
    exact count_other_a g N hN op st cas down lost x y w hb h1 h2 hl ⟨o1, o2, o3, o4, o5, o6⟩
  · have hl' : lost ≤ 0 := by omega
    by_cases o1 : op = 1
    · subst o1
      by_cases s1 : st = 1
      · subst s1; exact count_get1_b g N hN cas down lost x y w hb hl'
      · exact count_get2_b g N hN st cas down lost x y w hb h1 h2 hl' s1
    by_cases o2 : op = 2
    · subst o2
      cases cas
      · exact count_set2_b g N hN st down lost x y w hb h1 h2 hl'
      · exact count_set1_b g N hN st down lost x y w hb h1 h2 hl'
    by_cases o3 : op = 3
    · subst o3
      cases down
      · exact count_math2_b g N hN st cas lost x y w hb h1 h2 hl'
      · exact count_math1_b g N hN st cas lost x y w hb h1 h2 hl'
    by_cases o4 : op = 4
    · subst o4; exact count_touch_b g N hN st cas down lost x y w hb h1 h2 hl'
    by_cases o5 : op = 5
    · subst o5; exact count_delete_b g N hN st cas down lost x y w hb h1 h2 hl'
    by_cases o6 : op = 6
    · subst o6; exact count_flush_b g N hN st cas down lost x y w hb h1 h2 hl'
    exact count_other_b g N hN op st cas down lost x y w hb h1 h2 hl' ⟨o1, o2, o3, o4, o5, o6⟩

theorem rcount_lo (g : Nat) (N : Nat → Int) (op st : Int) (cas down : Bool) (lost : Int) (x y : Rest) (w : World) (hb : Blk w g 31 (nums N)) (h : st < 1) :
    Calls Tryd.prog 17 #[.pointer (some ⟨g, 0, none⟩), cmdV op cas down x, ansV st y, .int .i64 lost] w fun e w' =>
      e = .returned (.tuple #[]) ∧ Blk w' g 31 (nums N) ∧ Upd (One g) w w' := by
  unfold cmdV ansV
  go_enter Tryd.func17, Tryd.ntmps17
  go_wp2
  refine bodyPost_ret (results_none rfl _ _ _) rfl ?_
  exact ⟨rfl, (hb.alloc _).alloc _, ((Upd.refl _ _).alloc _).alloc _⟩

theorem rcount_hi (g : Nat) (N : Nat → Int) (op st : Int) (cas down : Bool) (lost : Int) (x y : Rest) (w : World) (hb : Blk w g 31 (nums N)) (h : 12 < st) :
    Calls Tryd.prog 17 #[.pointer (some ⟨g, 0, none⟩), cmdV op cas down x, ansV st y, .int .i64 lost] w fun e w' =>
      e = .returned (.tuple #[]) ∧ Blk w' g 31 (nums N) ∧ Upd (One g) w w' := by
  unfold cmdV ansV
  go_enter Tryd.func17, Tryd.ntmps17
  go_wp2
  refine bodyPost_ret (results_none rfl _ _ _) rfl ?_
  exact ⟨rfl, (hb.alloc _).alloc _, ((Upd.refl _ _).alloc _).alloc _⟩

theorem rcount (g : Nat) (N : Nat → Int) (op st : Int) (cas down : Bool) (lost : Int) (x y : Rest) (w : World) (hb : Blk w g 31 (nums N)) :
    Calls Tryd.prog 17 #[.pointer (some ⟨g, 0, none⟩), cmdV op cas down x, ansV st y, .int .i64 lost] w fun e w' =>
      e = .returned (.tuple #[]) ∧ Blk w' g 31 (nums (step op st lost cas down N)) ∧ Upd (One g) w w' := by
  unfold step
  by_cases hlo : st < 1
  · rw [if_pos (.inl hlo)]; exact rcount_lo g N op st cas down lost x y w hb hlo
  by_cases hhi : 12 < st
  · rw [if_pos (.inr hhi)]; exact rcount_hi g N op st cas down lost x y w hb hhi
  rw [if_neg (by omega)]
  have h1 : 1 ≤ st := by omega
  have h2 : st ≤ 12 := by omega
  by_cases hl : 0 < lost
  · by_cases o1 : op = 1
    · subst o1; exact rcount_get_a g N st cas down lost x y w hb h1 h2 hl
    by_cases o2 : op = 2
    · subst o2
      cases cas
      · exact rcount_set2_a g N st down lost x y w hb h1 h2 hl
      · exact rcount_set1_a g N st down lost x y w hb h1 h2 hl
    by_cases o3 : op = 3
    · subst o3
      cases down
      · exact rcount_math2_a g N st cas lost x y w hb h1 h2 hl
      · exact rcount_math1_a g N st cas lost x y w hb h1 h2 hl
    by_cases o4 : op = 4
    · subst o4; exact rcount_touch_a g N st cas down lost x y w hb h1 h2 hl
    by_cases o5 : op = 5
    · subst o5; exact rcount_delete_a g N st cas down lost x y w hb h1 h2 hl
    by_cases o6 : op = 6
    · subst o6; exact rcount_flush_a g N st cas down lost x y w hb h1 h2 hl
    exact rcount_other_a g N op st cas down lost x y w hb h1 h2 hl ⟨o1, o2, o3, o4, o5, o6⟩
  · have hl' : lost ≤ 0 := by omega
    by_cases o1 : op = 1
    · subst o1; exact rcount_get_b g N st cas down lost x y w hb h1 h2 hl'
    by_cases o2 : op = 2
    · subst o2
      cases cas
      · exact rcount_set2_b g N st down lost x y w hb h1 h2 hl'
      · exact rcount_set1_b g N st down lost x y w hb h1 h2 hl'
    by_cases o3 : op = 3
    · subst o3
      cases down
      · exact rcount_math2_b g N st cas lost x y w hb h1 h2 hl'
      · exact rcount_math1_b g N st cas lost x y w hb h1 h2 hl'
    by_cases o4 : op = 4
    · subst o4; exact rcount_touch_b g N st cas down lost x y w hb h1 h2 hl'
    by_cases o5 : op = 5
    · subst o5; exact rcount_delete_b g N st cas down lost x y w hb h1 h2 hl'
    by_cases o6 : op = 6
    · subst o6; exact rcount_flush_b g N st cas down lost x y w hb h1 h2 hl'
    exact rcount_other_b g N op st cas down lost x y w hb h1 h2 hl' ⟨o1, o2, o3, o4, o5, o6⟩
end Go.Proofs.YtjfkfnlnjklcdaaDoor
