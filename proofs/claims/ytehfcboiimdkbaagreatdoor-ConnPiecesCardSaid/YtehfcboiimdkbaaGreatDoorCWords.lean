/- words.words: the iterator, for every body that keeps its word. UNDER WAY. -/
import Derived.RangeFuncNested
import Derived.RangeFuncBound
import Derived.RangeFuncCalls
import Derived.RangeFuncLeaves
import Derived.Shelf.Abstract
import Derived.Shelf.RegionOpen
import Derived.WalkKit
import Derived.OwnWalkIn
import Derived.TacticsInMore
import Derived.LoopNIn
import Derived.LoopIn
import Derived.Test.YtehfcboiimdkbaaGreatDoorCShelfW
import Derived.Test.YtehfcboiimdkbaaGreatDoorBC
import Derived.Test.YtehfcboiimdkbaaGreatDoorBA
namespace Go.Proofs.YtehfcboiimdkbaaGreatDoor
set_option linter.unusedSimpArgs false
set_option linter.unusedVariables false
open Go.RowKit Go.Shelf
attribute [local go_sem] Oper.semAt_some
theorem words_step (k : Nat) (s : List UInt8) : wordsF (k + 1) s = if s.dropWhile (· == 32) = [] then [] else (s.dropWhile (· == 32)).takeWhile (· != 32) :: wordsF k (((s.dropWhile (· == 32)).dropWhile (· != 32)).drop 1) := rfl
theorem words_fuel : ∀ (k : Nat) (l : List UInt8), l.length < k → wordsF k l = wordsF (l.length + 1) l := by
  have key : ∀ (n k j : Nat) (l : List UInt8), l.length ≤ n → l.length < k → l.length < j → wordsF k l = wordsF j l := by
    intro n
    induction n with
    | zero =>
      intro k j l h hk hj
      obtain rfl : l = [] := List.length_eq_zero_iff.1 (by omega)
      cases k <;> cases j <;> first | (simp at hk; done) | (simp at hj; done) | rfl
    | succ n ih =>
      intro k j l h hk hj
      cases k with
      | zero => omega
      | succ k =>
        cases j with
        | zero => omega
        | succ j =>
          rw [words_step, words_step]
          split
          · rfl
          · rename_i hne
            have h1 := (List.dropWhile_sublist (p := (· == (32 : UInt8))) (l := l)).length_le
            have h2 := (List.dropWhile_sublist (p := (· != (32 : UInt8))) (l := l.dropWhile (· == 32))).length_le
            have h3 : 0 < (l.dropWhile (· == 32)).length := List.length_pos_iff.2 hne
            rw [ih k j _ (by rw [List.length_drop]; omega) (by rw [List.length_drop]; omega) (by rw [List.length_drop]; omega)]
  intro k l h
  exact key l.length k (l.length + 1) l (Nat.le_refl _) h (by omega)
def boxLen (Bn : Nat) (W : World) : Nat := match W.cell? ⟨Bn, 0, none⟩ with | some (.string b) => b.size | _ => 0
def Box (Bn : Nat) (W : World) (s : List UInt8) : Prop := s.length ≤ 100000 ∧ W.cell? ⟨Bn, 0, none⟩ = some (.string ⟨s.toArray⟩) ∧ W.frozen? ⟨Bn, 0, none⟩ = false
theorem Box.len {Bn : Nat} {W : World} {s : List UInt8} (h : Box Bn W s) : boxLen Bn W = s.length := by unfold boxLen; rw [h.2.1]; rfl
theorem words1 (l Bn : Nat) (m : Int) (J : List (List UInt8) → World → Prop) (s0 : List UInt8) (L : List (List UInt8))
    (hset : ∀ pre W v, J pre W → J pre (W.setCell ⟨Bn, 0, none⟩ v)) (hdrew : ∀ pre W k, J pre W → J pre (W.drewN k))
    (hmax : ∀ pre W, J pre W → W.cell? ⟨0, 0, none⟩ = some (.int .i64 m))
    (n : Nat) (hn : 1 ≤ n)
    (hY : ∀ pre x W s, J pre W → Box Bn W s → pre.length < L.length → YieldAt .wide (n - 1) Tryz.prog l #[.string ⟨x.toArray⟩] W fun e W' => e = .returned (.bool true) ∧ J (pre ++ [x]) W' ∧ Box Bn W' s)
    (W : World) (h0 : J [] W) (hb0 : Box Bn W s0) (hL : L = wordsF (s0.length + 1) s0) :
    CallsIn .wide n Tryz.prog 63 #[.func (.yield l) #[] #[], .pointer (some ⟨Bn, 0, none⟩)] W fun e W' => (∃ v, e = .returned v) ∧ J L W' := by
  refine callsIn_of_wp Tryz.func63 rfl trivial ?_ rfl
  simp only [Tryz.ntmps63, List.size_toArray, List.length_cons, List.length_nil, Nat.reduceAdd, Nat.reduceSub, Array.replicate_succ, Array.replicate_zero, List.push_toArray, List.append_toArray, List.nil_append, List.cons_append]
  gi_wp2
  gi_loopw [3] (fun _ wr => ∃ (pre : List (List UInt8)) (s : List UInt8), J pre wr ∧ Box Bn wr s ∧ L = pre ++ wordsF (s.length + 1) s) (fun _ wr => boxLen Bn wr)
  case atStart => exact ⟨[], s0, h0, hb0, hL⟩
  case round =>
    obtain ⟨pre, s, hJ, hB, hL⟩ := hrel
    have hc := hB.2.1
    have hf := hB.2.2
    have hT := Tryz.strings_TrimLeft_one ⟨s.toArray⟩ 32 (by decide)
    rw [show Lib.trimLeftB (⟨s.toArray⟩ : ByteArray).data.toList 32 = s.dropWhile (· == 32) from rfl] at hT
    obtain ⟨t, ht⟩ : ∃ t, t = s.dropWhile (· == 32) := ⟨_, rfl⟩
    have htl : t.length ≤ s.length := by rw [ht]; exact (List.dropWhile_sublist _).length_le
    rw [← ht] at hT
    have HT := Lib.hid hT; have HE := Lib.hid ht; clear hT ht
    gi_wp2
    refine ⟨trivial, ?_⟩
    refine (callsIn_wide.2 (HT.out _)).mono ?_
    rintro e w1 ⟨rfl, rfl⟩
    have hJ1 := hset pre _ (.string ⟨t.toArray⟩) hJ
    gi_wp2
    · have ht0 : t = [] := by have h : t.isEmpty = true := by assumption
                              simpa using h
      refine bodyPost_ret (results_none rfl _ _ _) rfl ?_
      refine ⟨⟨_, rfl⟩, ?_⟩
      rw [hL, words_step, ← HE.out, if_pos ht0, List.append_nil]
      exact hJ1
    · have ht1 : t ≠ [] := by have h : t.isEmpty = false := by assumption
                              intro e; rw [e] at h; cases h
      have hr : ((t.dropWhile (· != 32)).drop 1).length < s.length := by
        have h2 := (List.dropWhile_sublist (p := (· != (32 : UInt8))) (l := t)).length_le
        have h3 := List.length_pos_iff.2 ht1
        rw [List.length_drop]; omega
      have hm := hmax _ _ hJ1
      have hC := Tryz.strings_Cut ⟨t.toArray⟩ ⟨#[32]⟩ m _ (by show t.toArray.size < 4294967281; have := hB.1; simp; omega) hm
      refine ⟨trivial, ?_⟩
      refine (callsIn_wide.2 hC).mono ?_
      rintro e w2 ⟨rfl, q, rfl⟩
      have hJ2 := hset pre _ (.string ⟨(Lib.cut t [32]).2.1.toArray⟩) (hdrew pre _ q hJ1)
      have hB2 : Box Bn (((w1.setCell ⟨Bn, 0, none⟩ (.string ⟨t.toArray⟩)).drewN q).setCell ⟨Bn, 0, none⟩ (.string ⟨(Lib.cut t [32]).2.1.toArray⟩)) (Lib.cut t [32]).2.1 := by
        refine ⟨?_, World.cell?_setCell_same' _ _ _ ?_, ?_⟩
        · rw [(cut_one 32 t).2]; have h1 := (List.dropWhile_sublist (p := (· != (32 : UInt8))) (l := t)).length_le; have := hB.1; simp; omega
        · rw [World.cell?_drewN, World.cell?_setCell_same' _ _ _ (by rw [hc]; rfl)]; rfl
        · rw [World.frozen?_setCell, World.frozen?_drewN, World.frozen?_setCell]; exact hf
      have hLt : pre.length < L.length := by rw [hL, words_step, ← HE.out, if_neg ht1, List.length_append, List.length_cons]; omega
      obtain ⟨fn, tmps, assign, body, hy, hR⟩ := hY pre (Lib.cut t [32]).1 _ _ hJ2 hB2 hLt
      have HLt := Lib.hid hLt; clear hLt
      gi_wp2
      refine hR.mono ?_
      rintro e W' ⟨rfl, hJ3, hB3⟩
      gi_wp2
      go_roundw
      case rel =>
        refine ⟨pre ++ [(Lib.cut t [32]).1], (Lib.cut t [32]).2.1, hJ3, hB3, ?_⟩
        rw [hL, words_step, ← HE.out, if_neg ht1, (cut_one 32 t).1, (cut_one 32 t).2, words_fuel s.length _ hr, List.append_assoc]
        rfl
      case measure => rw [hB3.len, hB.len, (cut_one 32 t).2]; exact hr
end Go.Proofs.YtehfcboiimdkbaaGreatDoor
