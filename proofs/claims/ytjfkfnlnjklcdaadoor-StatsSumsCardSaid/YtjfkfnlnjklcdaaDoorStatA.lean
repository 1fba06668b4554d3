/- Counting: what the counters of package stats and of its reference do to their eighteen numbers. -/
import Derived.Test.YtjfkfnlnjklcdaaDoorChecked
import Derived.Test.YtjfkfnlnjklcdaaDoorMem
import Derived.RegionTactic
import Derived.ChangeAlike
import Derived.LoopTactic
namespace Go.Proofs.YtjfkfnlnjklcdaaDoor
open Go.RowKit

/-- eighteen numbers as cells -/
def nums (N : Nat → Int) : Array Value := (Array.range 18).map fun i => Value.int .u64 (N i)
/-- d more at place k -/
def bump (N : Nat → Int) (k : Nat) (d : Int) : Nat → Int := fun i => if i = k then IntKind.u64.wrap (N k + d) else N i
def bumps (N : Nat → Int) (l : List Nat) : Nat → Int := l.foldl (fun M k => bump M k 1) N
def Rng (N : Nat → Int) : Prop := ∀ i, 0 ≤ N i ∧ N i < 18446744073709551616

theorem nums_get (N : Nat → Int) (i : Nat) (h : i < 18) : (nums N)[i]? = some (.int .u64 (N i)) := by
  unfold nums; simp [h]
theorem nums_set (N : Nat → Int) (k : Nat) (d : Int) (h : k < 18) : (nums N).setIfInBounds k (.int .u64 (IntKind.u64.wrap (N k + d))) = nums (bump N k d) := by
  apply Array.ext_getElem?
  intro i
  rw [Array.getElem?_setIfInBounds]
  by_cases hi : i < 18
  · rw [nums_get _ _ hi]
    by_cases hk : k = i
    · subst hk; simp [nums, bump, h]
    · rw [if_neg hk, nums_get _ _ hi]; simp [bump, Ne.symm hk]
  · have hk : k ≠ i := by omega
    rw [if_neg hk]; simp [nums, hi]
theorem wrap_lt (n : Int) : 0 ≤ IntKind.u64.wrap n ∧ IntKind.u64.wrap n < 18446744073709551616 := by
  rw [IntKind.wrap_u64]; omega
theorem bump_rng {N : Nat → Int} (h : Rng N) (k : Nat) (d : Int) : Rng (bump N k d) := fun i => by
  unfold bump
  split
  · exact wrap_lt _
  · exact h i
theorem bumps_rng {N : Nat → Int} (h : Rng N) (l : List Nat) : Rng (bumps N l) := by
  unfold bumps
  induction l generalizing N with
  | nil => exact h
  | cons a l ih => exact ih (bump_rng h a 1)
theorem bump_zero {N : Nat → Int} (h : Rng N) (k : Nat) : bump N k 0 = N := by
  funext i
  unfold bump
  by_cases hi : i = k
  · subst hi; have := h i; rw [if_pos rfl, IntKind.wrap_u64]; omega
  · rw [if_neg hi]

theorem old_cell {w : World} {g : Nat} {N : Nat → Int} {t : TypeId} (hb : Blk w g t (nums N)) (i : Nat) (hi : i < 18) : w.cell? ⟨g, i, none⟩ = some (.int .u64 (N i)) := by rw [hb.cell, nums_get _ _ hi]
theorem ref_one_yes (g : Nat) (i : Nat) (hi : i < 18) (n : Int) (w : World) (hc : w.cell? ⟨g, i, none⟩ = some (.int .u64 n)) (hf : w.frozen? ⟨g, i, none⟩ = false) :
    Calls Tryd.prog 35 #[.pointer (some ⟨g, 0, none⟩), .int .i64 i, .bool true] w fun e w' => e = .returned (.tuple #[]) ∧ w' = (w.setCell ⟨g, i, none⟩ (.int .u64 (IntKind.u64.wrap (n + 1)))).drew := by
  go_enter Tryd.func35, Tryd.ntmps35
  go_wp2
  go_region
  all_goals (go_wp2; go_end0; exact ⟨rfl, rfl⟩)
theorem ref_one_no (v : Value) (i : Int) (w : World) :
    Calls Tryd.prog 35 #[v, .int .i64 i, .bool false] w fun e w' => e = .returned (.tuple #[]) ∧ w' = w := by
  go_enter Tryd.func35, Tryd.ntmps35
  go_wp2
  go_end0
  exact ⟨rfl, rfl⟩
def opt (b : Bool) (i : Nat) : List Nat := if b then [i] else []
theorem ref_one (g : Nat) (N : Nat → Int) (i : Nat) (hi : i < 18) (b : Bool) (w : World) (hb : Blk w g 31 (nums N)) :
    Calls Tryd.prog 35 #[.pointer (some ⟨g, 0, none⟩), .int .i64 i, .bool b] w fun e w' => e = .returned (.tuple #[]) ∧ Blk w' g 31 (nums (bumps N (opt b i))) ∧ Upd (One g) w w' := by
  cases b with
  | true =>
    refine (ref_one_yes g i hi (N i) w (by rw [hb.cell, nums_get _ _ hi]) (hb.frozen i)).mono ?_
    rintro e w' ⟨rfl, rfl⟩
    exact ⟨rfl, ((hb.set_ i _).to (nums_set N i 1 hi)).drew, ((Upd.refl (One g) w).setOne i _).drew⟩
  | false =>
    refine (ref_one_no _ i w).mono ?_
    rintro e w' ⟨rfl, rfl⟩
    exact ⟨rfl, hb, Upd.refl _ _⟩

/-- pairs of a status and a place, as cells -/
def pairs (l : List (Int × Nat)) : List Value := l.flatMap fun p => [.int .i64 p.1, .int .i64 p.2]
def first (l : List (Int × Nat)) (st : Int) : List Nat := match l.find? (fun p => p.1 == st) with | some p => [p.2] | none => []
theorem pairs_get (l : List (Int × Nat)) (k : Nat) (p : Int × Nat) (h : l[k]? = some p) : (pairs l)[k * 2]? = some (.int .i64 p.1) ∧ (pairs l)[k * 2 + 1]? = some (.int .i64 p.2) := by
  induction l generalizing k with
  | nil => simp at h
  | cons a l ih =>
    cases k with
    | zero => simp at h; subst h; simp [pairs]
    | succ k =>
      have := ih k (by simpa using h)
      have e : pairs (a :: l) = [.int .i64 a.1, .int .i64 a.2] ++ pairs l := by simp [pairs]
      rw [e, show (k + 1) * 2 = 2 + k * 2 by omega, show 2 + k * 2 + 1 = 2 + (k * 2 + 1) by omega]
      rw [List.getElem?_append_right (by simp), List.getElem?_append_right (by simp)]
      simpa using this
theorem first_at (l : List (Int × Nat)) (st : Int) (k : Nat) (p : Int × Nat) (h : l[k]? = some p) (hp : p.1 = st) (hn : ∀ q ∈ l.take k, q.1 ≠ st) : first l st = [p.2] := by
  unfold first
  have hk : k < l.length := (List.getElem?_eq_some_iff.1 h).1
  have e : l = l.take k ++ p :: l.drop (k + 1) := by
    have h2 := List.drop_eq_getElem_cons hk
    rw [(List.getElem?_eq_some_iff.1 h).2] at h2
    rw [← h2, List.take_append_drop]
  rw [e, List.find?_append, List.find?_eq_none.2 (by simpa using hn)]
  simp [hp]
theorem first_none (l : List (Int × Nat)) (st : Int) (hn : ∀ q ∈ l, q.1 ≠ st) : first l st = [] := by
  unfold first
  rw [List.find?_eq_none.2 (by simpa using hn)]

set_option maxHeartbeats 1000000 in
theorem one (g b : Nat) (N : Nat → Int) (st : Int) (l : List (Int × Nat)) (hl : l.length ≤ 100) (c : Nat) (hr : ∀ p ∈ l, p.2 < 18) (w : World) (hb : Blk w g 62 (nums N)) (hs : Blk w b 64 (pairs l).toArray) :
    Calls Tryd.prog 34 #[.pointer (some ⟨g, 0, none⟩), .int .i64 st, .slice (some ⟨b, 0, none⟩) l.length c] w fun e w' => e = .returned (.tuple #[]) ∧ Blk w' g 62 (nums (bumps N (first l st))) ∧ Upd (One g) w w' := by
  have hgb : g ≠ b := hb.ne_ hs (by decide)
  go_enter Tryd.func34, Tryd.ntmps34
  go_wp2
  go_loopw [10] (fun i wr => ∃ k : Nat, k ≤ l.length ∧ i = .int .i64 k ∧ (∀ q ∈ l.take k, q.1 ≠ st) ∧ Upd Non w wr) (fun i _ => l.length - (intOf i).toNat)
  case atStart => exact ⟨0, Nat.zero_le _, rfl, by simp, Upd.refl _ _⟩
  case round =>
    obtain ⟨k, hk, rfl, hn, hu⟩ := hrel
    by_cases hlt : k < l.length
    · obtain ⟨p, hp⟩ : ∃ p, l[k]? = some p := ⟨l[k], List.getElem?_eq_getElem hlt⟩
      obtain ⟨h0, h1⟩ := pairs_get l k p hp
      have hbr := hb.upd hu (fun h => h)
      have hsr := hs.upd hu (fun h => h)
      have hc0 : wr.cell? ⟨b, k * 2, none⟩ = some (.int .i64 p.1) := by rw [hsr.cell]; simpa using h0
      have hc1 : wr.cell? ⟨b, k * 2 + 1, none⟩ = some (.int .i64 p.2) := by rw [hsr.cell]; simpa using h1
      have hp18 := hr p (List.mem_of_getElem? hp)
      have hcg : wr.cell? ⟨g, p.2, none⟩ = some (.int .u64 (N p.2)) := by rw [hbr.cell, nums_get _ _ hp18]
      have hfg := hbr.frozen p.2
      have hcg2 : ∀ o, (wr.alloc o).cell? ⟨g, p.2, none⟩ = some (.int .u64 (N p.2)) := fun o => by rw [(hbr.alloc o).cell, nums_get _ _ hp18]
      have hfg2 : ∀ o, (wr.alloc o).frozen? ⟨g, p.2, none⟩ = false := fun o => (hbr.alloc o).frozen p.2
      have HP := Lib.hid hp; clear hp
      clear h0 h1
      by_cases hst : p.1 = st
      · have hst' : (p.1 == st) = true := by simpa using hst
        have HST := Lib.hid hst; clear hst
        go_wp2
        go_region
        all_goals go_wp2
        refine bodyPost_ret (results_none rfl _ _ _) rfl ?_
        refine ⟨rfl, (((hbr.alloc _).set_ p.2 _).to ?_).drew, ((hu.non.alloc _).setOne p.2 _).drew⟩
        rw [nums_set N p.2 1 hp18, first_at l st k p HP.out HST.out hn]
        rfl
      · have hst' : (p.1 == st) = false := by simpa using hst
        go_wp2
        go_roundw
        case rel => 
          refine ⟨k + 1, by omega, by go_num, ?_, hu.alloc _⟩
          rw [List.take_add_one, HP.out]
          intro q hq
          rcases List.mem_append.1 hq with h | h
          · exact hn q h
          · simp at h; subst h; exact hst
        case measure => simp [intOf]; omega
    · have hkl : k = l.length := by omega
      have Hkl := Lib.hid hkl; clear hkl
      go_wp2
      go_end0
      refine ⟨rfl, (hb.upd hu (fun h => h)).to ?_, hu.non⟩
      rw [first_none l st (fun q hq => hn q (by rw [Hkl.out, List.take_length]; exact hq))]
      rfl
end Go.Proofs.YtjfkfnlnjklcdaaDoor
