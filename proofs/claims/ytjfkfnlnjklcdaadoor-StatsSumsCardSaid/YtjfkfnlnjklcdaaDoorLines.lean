/- The rows of texts that both reports of counts make: eighteen lines, each with its name and its number. -/
import Derived.Test.YtjfkfnlnjklcdaaDoorLine
import Derived.Maps.AppendAt
import Derived.LoopTactic
import Derived.Deep.DeepMust
import Derived.Deep.RegionHeld3
import Derived.Deep.AppendLies
namespace Go.Proofs.YtjfkfnlnjklcdaaDoor
open Go.RowKit

/-- the counts' names -/
def namesL : List (List UInt8) := [
  [99, 109, 100, 95, 103, 101, 116],
  [99, 109, 100, 95, 115, 101, 116],
  [99, 109, 100, 95, 116, 111, 117, 99, 104],
  [99, 109, 100, 95, 102, 108, 117, 115, 104],
  [103, 101, 116, 95, 104, 105, 116, 115],
  [103, 101, 116, 95, 109, 105, 115, 115, 101, 115],
  [100, 101, 108, 101, 116, 101, 95, 104, 105, 116, 115],
  [100, 101, 108, 101, 116, 101, 95, 109, 105, 115, 115, 101, 115],
  [105, 110, 99, 114, 95, 104, 105, 116, 115],
  [105, 110, 99, 114, 95, 109, 105, 115, 115, 101, 115],
  [100, 101, 99, 114, 95, 104, 105, 116, 115],
  [100, 101, 99, 114, 95, 109, 105, 115, 115, 101, 115],
  [99, 97, 115, 95, 104, 105, 116, 115],
  [99, 97, 115, 95, 98, 97, 100, 118, 97, 108],
  [99, 97, 115, 95, 109, 105, 115, 115, 101, 115],
  [116, 111, 117, 99, 104, 95, 104, 105, 116, 115],
  [116, 111, 117, 99, 104, 95, 109, 105, 115, 115, 101, 115],
  [101, 118, 105, 99, 116, 105, 111, 110, 115]]
def nameL (k : Nat) : List UInt8 := namesL.getD k []
theorem nameL_len (k : Nat) : (nameL k).length ≤ 1000 := by
  unfold nameL
  by_cases h : k < 18
  · have : k = 0 ∨ k = 1 ∨ k = 2 ∨ k = 3 ∨ k = 4 ∨ k = 5 ∨ k = 6 ∨ k = 7 ∨ k = 8 ∨ k = 9 ∨ k = 10 ∨ k = 11 ∨ k = 12 ∨ k = 13 ∨ k = 14 ∨ k = 15 ∨ k = 16 ∨ k = 17 := by omega
    rcases this with rfl | rfl | rfl | rfl | rfl | rfl | rfl | rfl | rfl | rfl | rfl | rfl | rfl | rfl | rfl | rfl | rfl | rfl <;> decide
  · rw [List.getD_eq_getElem?_getD, List.getElem?_eq_none (by simpa [namesL] using h)]; simp

/-- texts as cells -/
def strs (l : List (List UInt8)) : List Value := l.map fun s => Value.string ⟨s.toArray⟩
theorem strs_len (l : List (List UInt8)) : (strs l).length = l.length := by simp [strs]
theorem strs_get (l : List (List UInt8)) (i : Nat) (s : List UInt8) (h : l[i]? = some s) : (strs l)[i]? = some (.string ⟨s.toArray⟩) := by simp [strs, h]
theorem strs_snoc (l : List (List UInt8)) (s : List UInt8) : strs (l ++ [s]) = strs l ++ [.string ⟨s.toArray⟩] := by simp [strs]
theorem strs_one (l : List (List UInt8)) : ∀ u ∈ strs l, u.oneCell' = true := by intro u hu; simp only [strs, List.mem_map] at hu; obtain ⟨s, _, rfl⟩ := hu; rfl
/-- the report's first k lines -/
def linesL (N : Nat → Int) (k : Nat) : List (List UInt8) := (List.range k).map fun i => lineL (nameL i) (N i)
theorem linesL_len (N : Nat → Int) (k : Nat) : (linesL N k).length = k := by simp [linesL]
theorem linesL_succ (N : Nat → Int) (k : Nat) : linesL N (k + 1) = linesL N k ++ [lineL (nameL k) (N k)] := by simp [linesL, List.range_succ]
theorem linesL_get (N : Nat → Int) (k i : Nat) (h : i < k) : (linesL N k)[i]? = some (lineL (nameL i) (N i)) := by simp [linesL, h]

theorem ownsRow_below {w w' : World} {B : Nat} {e : TypeId} {size : Nat} {v : Value} {n : Nat} {xs : List Value} (h : w.ownsRow B e size v n xs) (hb : Below w.heap.size w w') : w'.ownsRow B e size v n xs := by
  obtain ⟨hl, h0 | ⟨g, cap, cur, hv, hB, hh, r⟩⟩ := h
  · exact ⟨hl, .inl h0⟩
  · have hg : g < w.heap.size := by
      rcases Nat.lt_or_ge g w.heap.size with h1 | h1
      · exact h1
      · rw [Array.getElem?_eq_none h1] at hh; cases hh
    exact ⟨hl, .inr ⟨g, cap, cur, hv, hB, (hb.block g hg).trans hh, r⟩⟩
theorem ownsRow_upd {w w' : World} {S : Nat → Prop} {B : Nat} {e : TypeId} {size : Nat} {v : Value} {n : Nat} {xs : List Value} (h : w.ownsRow B e size v n xs) (hb : Upd S w w') (hS : ∀ k, v.ownBlock = some k → ¬ S k) : w'.ownsRow B e size v n xs := by
  obtain ⟨hl, h0 | ⟨g, cap, cur, hv, hB, hh, r⟩⟩ := h
  · exact ⟨hl, .inl h0⟩
  · have hg : g < w.heap.size := by
      rcases Nat.lt_or_ge g w.heap.size with h1 | h1
      · exact h1
      · rw [Array.getElem?_eq_none h1] at hh; cases hh
    exact ⟨hl, .inr ⟨g, cap, cur, hv, hB, (hb.block g hg (hS g (by rw [hv]; rfl))).trans hh, r⟩⟩

theorem ownsRow_mono {w : World} {B B' : Nat} {e : TypeId} {size : Nat} {v : Value} {n : Nat} {xs : List Value} (h : w.ownsRow B e size v n xs) (hB : B' ≤ B) : w.ownsRow B' e size v n xs := by
  obtain ⟨hl, h0 | ⟨g, cap, cur, hv, hB1, r⟩⟩ := h
  · exact ⟨hl, .inl h0⟩
  · exact ⟨hl, .inr ⟨g, cap, cur, hv, Nat.le_trans hB hB1, r⟩⟩

theorem infoStr : (Tryd.prog.info? 9).map (fun i => (i.zero, i.size, i.bytes)) = some (some (.string ⟨#[]⟩), 1, 16) := by kernel_rfl

theorem names_index (k : Nat) (hk : k < 18) (w : World) : (Instr.index 66 (.agg #[.string ⟨#[99, 109, 100, 95, 103, 101, 116]⟩, .string ⟨#[99, 109, 100, 95, 115, 101, 116]⟩, .string ⟨#[99, 109, 100, 95, 116, 111, 117, 99, 104]⟩, .string ⟨#[99, 109, 100, 95, 102, 108, 117, 115, 104]⟩, .string ⟨#[103, 101, 116, 95, 104, 105, 116, 115]⟩, .string ⟨#[103, 101, 116, 95, 109, 105, 115, 115, 101, 115]⟩, .string ⟨#[100, 101, 108, 101, 116, 101, 95, 104, 105, 116, 115]⟩, .string ⟨#[100, 101, 108, 101, 116, 101, 95, 109, 105, 115, 115, 101, 115]⟩, .string ⟨#[105, 110, 99, 114, 95, 104, 105, 116, 115]⟩, .string ⟨#[105, 110, 99, 114, 95, 109, 105, 115, 115, 101, 115]⟩, .string ⟨#[100, 101, 99, 114, 95, 104, 105, 116, 115]⟩, .string ⟨#[100, 101, 99, 114, 95, 109, 105, 115, 115, 101, 115]⟩, .string ⟨#[99, 97, 115, 95, 104, 105, 116, 115]⟩, .string ⟨#[99, 97, 115, 95, 98, 97, 100, 118, 97, 108]⟩, .string ⟨#[99, 97, 115, 95, 109, 105, 115, 115, 101, 115]⟩, .string ⟨#[116, 111, 117, 99, 104, 95, 104, 105, 116, 115]⟩, .string ⟨#[116, 111, 117, 99, 104, 95, 109, 105, 115, 115, 101, 115]⟩, .string ⟨#[101, 118, 105, 99, 116, 105, 111, 110, 115]⟩]) (.int .i64 (k : Int))).run Tryd.prog w = .ok (.string ⟨(nameL k).toArray⟩) w := by
  have : k = 0 ∨ k = 1 ∨ k = 2 ∨ k = 3 ∨ k = 4 ∨ k = 5 ∨ k = 6 ∨ k = 7 ∨ k = 8 ∨ k = 9 ∨ k = 10 ∨ k = 11 ∨ k = 12 ∨ k = 13 ∨ k = 14 ∨ k = 15 ∨ k = 16 ∨ k = 17 := by omega
  rcases this with rfl | rfl | rfl | rfl | rfl | rfl | rfl | rfl | rfl | rfl | rfl | rfl | rfl | rfl | rfl | rfl | rfl | rfl
  all_goals (show @Eq _ _ _; kernel_rfl)

set_option maxHeartbeats 4000000 in
theorem lines (g : Nat) (N : Nat → Int) (hN : Rng N) (w : World) (hb : Blk w g 62 (nums N)) (htab : Pow w) :
    Calls Tryd.prog 19 #[.pointer (some ⟨g, 0, none⟩)] w fun e w' => ∃ v, e = .returned v ∧ w'.ownsRow w.heap.size 9 1 v 18 (strs (linesL N 18)) ∧ Below w.heap.size w w' := by
  obtain ⟨i0, hi0, hz0, hz1, hz2⟩ := info_parts infoStr
  go_enter Tryd.func19, Tryd.ntmps19
  go_wp2
  go_loopw [3, 7] (fun v i wr => ∃ k : Nat, k ≤ 18 ∧ i = .int .i64 k ∧ wr.ownsRow w.heap.size 9 1 v k (strs (linesL N k)) ∧ Below w.heap.size w wr) (fun _ i _ => 18 - (intOf i).toNat)
  case atStart => exact ⟨0, Nat.zero_le _, rfl, World.ownsRow_nil _ _ _ _, Below.refl _ _⟩
  case round =>
    obtain ⟨k, hk, rfl, hown, hu⟩ := hrel
    by_cases hlt : k < 18
    · have hix := fun W => names_index k hlt W
      have hbr := (hb.below hu)
      have hc := old_cell hbr k hlt
      obtain ⟨hr0, hr1⟩ := hN k
      have HL := Lib.hid (fun W h => line (nameL k) (nameL_len k) (N k) hr0 hr1 W h)
      have hlt' : (k : Int) < 18 := by omega
      go_wp2_with fail
      refine (HL.out _ (htab.below hu)).mono ?_
      rintro e w1 ⟨rfl, hb1⟩
      have hown1 := ownsRow_below hown hb1
      have hsz1 := hu.size
      have hsz2 := hb1.size
      go_wp2_with (at_builtin; refine wpList_append_own _ rfl _ _ 40 rfl w.heap.size 9 i0 _ 1 16 Tryd.underlying40 hi0 hz0 hz1 hz2 rfl (by decide) _ _ _ rfl (hown1.alloc _) ⟨w1.heap.size, 0, none⟩ 1 1 [.string ⟨(lineL (nameL k) (N k)).toArray⟩] rfl rfl (cell_one_new _ _ _) (by simp [Value.oneCell']) (by unfold maxLen; omega) (by omega) (by simp; omega) ?_; intro v' w2 hown2 hgrow _)
      go_roundw
      case rel =>
        refine ⟨k + 1, by omega, by go_num, ?_, ?_⟩
        · rw [linesL_succ, strs_snoc]; exact hown2
        · exact ((hu.trans (hb1.mono hsz1)).alloc (by omega) _).grown hgrow (by simp; omega) (fun k hk => (hown.lt k hk).1)
      case measure => simp [intOf]; omega
    · obtain rfl : k = 18 := by omega
      go_wp2
      go_ret
      exact ⟨_, rfl, hown, hu⟩

/-- the reference's names, as cells -/
def namesV : Array Value := #[.string ⟨#[99, 109, 100, 95, 103, 101, 116]⟩, .string ⟨#[99, 109, 100, 95, 115, 101, 116]⟩, .string ⟨#[99, 109, 100, 95, 116, 111, 117, 99, 104]⟩, .string ⟨#[99, 109, 100, 95, 102, 108, 117, 115, 104]⟩, .string ⟨#[103, 101, 116, 95, 104, 105, 116, 115]⟩, .string ⟨#[103, 101, 116, 95, 109, 105, 115, 115, 101, 115]⟩, .string ⟨#[100, 101, 108, 101, 116, 101, 95, 104, 105, 116, 115]⟩, .string ⟨#[100, 101, 108, 101, 116, 101, 95, 109, 105, 115, 115, 101, 115]⟩, .string ⟨#[105, 110, 99, 114, 95, 104, 105, 116, 115]⟩, .string ⟨#[105, 110, 99, 114, 95, 109, 105, 115, 115, 101, 115]⟩, .string ⟨#[100, 101, 99, 114, 95, 104, 105, 116, 115]⟩, .string ⟨#[100, 101, 99, 114, 95, 109, 105, 115, 115, 101, 115]⟩, .string ⟨#[99, 97, 115, 95, 104, 105, 116, 115]⟩, .string ⟨#[99, 97, 115, 95, 98, 97, 100, 118, 97, 108]⟩, .string ⟨#[99, 97, 115, 95, 109, 105, 115, 115, 101, 115]⟩, .string ⟨#[116, 111, 117, 99, 104, 95, 104, 105, 116, 115]⟩, .string ⟨#[116, 111, 117, 99, 104, 95, 109, 105, 115, 115, 101, 115]⟩, .string ⟨#[101, 118, 105, 99, 116, 105, 111, 110, 115]⟩]
theorem namesV_get (k : Nat) (hk : k < 18) : namesV[k]? = some (.string ⟨(nameL k).toArray⟩) := by
  have : k = 0 ∨ k = 1 ∨ k = 2 ∨ k = 3 ∨ k = 4 ∨ k = 5 ∨ k = 6 ∨ k = 7 ∨ k = 8 ∨ k = 9 ∨ k = 10 ∨ k = 11 ∨ k = 12 ∨ k = 13 ∨ k = 14 ∨ k = 15 ∨ k = 16 ∨ k = 17 := by omega
  rcases this with rfl | rfl | rfl | rfl | rfl | rfl | rfl | rfl | rfl | rfl | rfl | rfl | rfl | rfl | rfl | rfl | rfl | rfl
  all_goals rfl
theorem rnames (w : World) : Calls Tryd.prog 37 #[] w fun e w' => e = .returned (.slice (some ⟨w.heap.size, 0, none⟩) 18 18) ∧ Blk w' w.heap.size 9 namesV ∧ Below w.heap.size w w' := by
  go_enter Tryd.func37, Tryd.ntmps37
  go_wp2
  go_ret
  exact ⟨rfl, Blk.new w _ _, (Below.refl _ _).alloc (Nat.le_refl _) _⟩

set_option maxRecDepth 100000 in
set_option maxHeartbeats 4000000 in
theorem rlines (g : Nat) (N : Nat → Int) (hN : Rng N) (w : World) (hb : Blk w g 31 (nums N)) :
    Calls Tryd.prog 21 #[.pointer (some ⟨g, 0, none⟩)] w fun e w' => ∃ v, e = .returned v ∧ w'.ownsRow w.heap.size 9 1 v 18 (strs (linesL N 18)) ∧ Below w.heap.size w w' := by
  obtain ⟨i0, hi0, hz0, hz1, hz2⟩ := info_parts infoStr
  have hgw := hb.lt
  go_enter Tryd.func21, Tryd.ntmps21
  go_wp2_with fail
  refine (rnames w).mono ?_
  rintro e w0 ⟨rfl, hn0, hb0⟩
  have hs0 := hn0.lt
  go_wp2_with fail
  go_loopw [3, 5] (fun v i wr => ∃ k : Nat, k ≤ 18 ∧ i = .int .i64 k ∧ wr.ownsRow w0.heap.size 9 1 v k (strs (linesL N k)) ∧ Below w0.heap.size w0 wr) (fun _ i _ => 18 - (intOf i).toNat)
  case atStart => exact ⟨0, Nat.zero_le _, rfl, World.ownsRow_nil _ _ _ _, Below.refl _ _⟩
  case round =>
    obtain ⟨k, hk, rfl, hown, hu⟩ := hrel
    have hnr := hn0.below hu
    have hgr := (hb.below hb0).below hu
    by_cases hlt : k < 18
    · have hcn : wr.cell? ⟨w.heap.size, k, none⟩ = some (.string ⟨(nameL k).toArray⟩) := by rw [hnr.cell, namesV_get k hlt]
      have hc := old_cell hgr k hlt
      obtain ⟨hr0, hr1⟩ := hN k
      have hlt' : (k : Int) < 18 := by omega
      have hnl := nameL_len k
      have hdl := (decI_len hr0 hr1).2
      have hsz1 := hu.size
      have hbf : ∀ j, u3.ownBlock = some j → w0.heap.size ≤ j := fun j hj => (hown.lt j hj).1
      have hne1 : u3.ownBlock ≠ some w.heap.size := fun e => by have := hbf _ e; omega
      have hne2 : u3.ownBlock ≠ some g := fun e => by have := hbf _ e; omega
      have hlw : w.heap.size < wr.heap.size := by omega
      have hlg : g < wr.heap.size := by omega
      have q1 : ¬ 9223372036854775807 < 5 + (nameL k).length := by omega
      have q2 : ¬ 9223372036854775807 < 5 + (nameL k).length + 1 := by omega
      have q3 : ¬ 9223372036854775807 < 5 + (nameL k).length + 1 + (decI (N k)).length := by omega
      go_wp2_with fail
      go_region_held3 (fun w' => w'.cell? ⟨w.heap.size, k, none⟩ = some (.string ⟨(nameL k).toArray⟩) ∧ w'.cell? ⟨g, k, none⟩ = some (.int .u64 (N k)))
        (first
          | go_keep
          | (refine ⟨?_, ?_⟩
             · (rw [hb1.cell hlw]; assumption)
             · (rw [hb1.cell hlg]; assumption))
          | (refine ⟨?_, ?_⟩
             · (refine (hgrow.cell_far _ (by simp; omega) (Ne.symm hne1)).trans ?_; exact (World.cell?_alloc_lt w1 _ ⟨w.heap.size, k, none⟩ (Nat.lt_of_lt_of_le hlw hsb)).trans ((hbw.cell (p := ⟨w.heap.size, k, none⟩) hlw).trans hcn))
             · (refine (hgrow.cell_far _ (by simp; omega) (Ne.symm hne2)).trans ?_; exact (World.cell?_alloc_lt w1 _ ⟨g, k, none⟩ (Nat.lt_of_lt_of_le hlg hsb)).trans ((hbw.cell (p := ⟨g, k, none⟩) hlg).trans hc))))
        (first
          | (go_at_call 26; refine (rtextI (N k) hr0 hr1 _).mono ?_; rintro e w1 ⟨rfl, hb1⟩; have hbw := undrew hb1; have hsb := hbw.size)
          | (refine step_append_lies _ (by rfl) _ _ _ (by rfl) w0.heap.size 9 i0 _ 1 16 Tryd.underlying40 hi0 hz0 hz1 hz2 rfl (by omega) u3 k (strs (linesL N k)) (by rfl) (((ownsRow_below hown hbw).alloc _).drew) ⟨w1.heap.size, 0, none⟩ 1 1 [.string (⟨#[83, 84, 65, 84, 32]⟩ ++ ⟨(nameL k).toArray⟩ ++ ⟨#[32]⟩ ++ ⟨(decI (N k)).toArray⟩ : ByteArray)] (by rfl) (by rfl) (World.news_of_block (cs := #[.string (⟨#[83, 84, 65, 84, 32]⟩ ++ ⟨(nameL k).toArray⟩ ++ ⟨#[32]⟩ ++ ⟨(decI (N k)).toArray⟩ : ByteArray)]) (t := 9) (fr := (0, 0)) (heap_alloc_new w1 _)) (by simp [Value.oneCell']) (by omega) (by unfold maxLen; omega) (by omega) (by simp; omega) (w1.heap.size + 1) (by simp) ?_; intro gg cap w2 hown2 hgrow hat hlt2))
      go_wp2_with fail
      go_roundw
      case rel =>
        have e1 : Value.string ((⟨#[83, 84, 65, 84, 32]⟩ ++ ⟨(nameL k).toArray⟩ ++ ⟨#[32]⟩ ++ ⟨(decI (N k)).toArray⟩ : ByteArray)) = .string ⟨(lineL (nameL k) (N k)).toArray⟩ := by simp only [lineL, ByteArray.mk_append_mk]
        refine ⟨k + 1, by omega, by go_num, ?_, ?_⟩
        · rw [linesL_succ, strs_snoc, ← e1]; exact hown2
        · exact ((hu.trans (hbw.mono hsz1)).alloc (by omega) _).grown hgrow (by simp; omega) (fun k hk => hbf k hk)
      case measure => simp [intOf]; omega
    · obtain rfl : k = 18 := by omega
      go_wp2_with fail
      go_ret
      exact ⟨_, rfl, ownsRow_mono hown hb0.size, hb0.trans (hu.mono hb0.size)⟩
end Go.Proofs.YtjfkfnlnjklcdaaDoor
