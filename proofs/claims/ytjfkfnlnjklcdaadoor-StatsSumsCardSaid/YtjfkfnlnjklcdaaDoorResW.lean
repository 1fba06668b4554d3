/- StatsResets: the walk: whatever was counted, behind a reset each line ends with a nought. -/
import Derived.Test.YtjfkfnlnjklcdaaDoorStatD
import Derived.Deep.MidRow
import Derived.StillTailTactics
import Derived.BigQuiet
import Derived.Deep.DeepCutAuto
import Derived.Deep.CutBlock
import Derived.Outline
import Derived.WalkSpells
namespace Go.Proofs.YtjfkfnlnjklcdaaDoor
open Go.RowKit

/-- a command's cells -/
def cmdC (op : Int) (cas down : Bool) (x : Rest) : List Value := [.int .i64 op, x 1, x 2, x 3, x 4, x 5, x 6, x 7, .bool cas, x 9, x 10, .bool down, x 12, x 13, x 14, x 15]
structure Cmd where
  op : Int
  cas : Bool
  down : Bool
  x : Rest
def Cmd.cells (c : Cmd) : List Value := cmdC c.op c.cas c.down c.x

theorem rangeAt_upd {w w' : World} {S : Nat → Prop} (hu : Upd S w w') {b o : Nat} {cs : List Value} (h : w.rangeAt b o cs) (hb : b < w.heap.size) (hS : ¬ S b) : w'.rangeAt b o cs :=
  fun j v hv => (hu.cell (p := ⟨b, o + j, none⟩) hb hS).trans (h j v hv)
theorem tail_two (p : List UInt8) : (⟨(p ++ [32, 48]).toArray⟩ : ByteArray).extract p.length (⟨(p ++ [32, 48]).toArray⟩ : ByteArray).size = ⟨#[32, 48]⟩ := by
  apply ByteArray.ext
  apply Array.toList_inj.1
  rw [Go.Lib.extract_data]
  show ((p ++ [32, 48]).drop p.length).take _ = _
  rw [List.drop_left]
  simp [ByteArray.size]
theorem sizeCmd : (Tryd.prog.info? 35).map (·.size) = some 16 := by kernel_rfl

set_option maxRecDepth 100000 in
set_option maxHeartbeats 4000000 in
theorem resets_walk (A B : Option Addr) (n m c d : Nat) (cs : Nat → Cmd) (st : Nat → Int) (hn : n ≤ maxLen) (hm : m ≤ maxLen) (w : World) (htab : Pow w)
    (hA : ∀ k, k < n → ∃ b o, A = some ⟨b, o, none⟩ ∧ b < w.heap.size ∧ w.rangeAt b (o + k * 16) (cs k).cells)
    (hB : ∀ k, k < m → ∃ b o, B = some ⟨b, o, none⟩ ∧ b < w.heap.size ∧ w.cell? ⟨b, o + k, none⟩ = some (.int .i64 (st k))) :
    Calls Tryd.prog 4 #[.slice A n c, .slice B m d] w fun e w' => e = .returned (.bool true) ∧ Below w.heap.size w w' := by
  unfold maxLen at hn hm
  have HA := Lib.hid hA; have HB := Lib.hid hB; clear hA hB
  go_enter Tryd.func4, Tryd.ntmps4
  go_wp2_with fail
  refine (shown w htab).mono ?_
  rintro e w1 ⟨rfl, u1⟩
  go_wp2_with fail
  refine (new w1).mono ?_
  rintro e w2 ⟨rfl, b2, u2⟩
  go_upto_block 0 with fail
  have hs1 := u1.size
  have hs2 := b2.lt
  have hu2 : Upd Non w w2 := ((Upd.refl Non w).below u1).below u2
  obtain ⟨g, hg⟩ : ∃ g, g = w1.heap.size := ⟨_, rfl⟩
  rw [← hg] at b2 hs2 ⊢
  have hgw : w.heap.size ≤ g := by omega
  have HG := Lib.hid hg; clear hg
  go_cut [7] (fun _ wx => ∃ N, Blk wx g 62 (nums N) ∧ Upd Non w wx)
  case first =>
   go_wp2_with fail
   go_loopw [7] (fun i wr => ∃ k : Nat, k ≤ n ∧ k ≤ 200 ∧ i = .int .i64 k ∧ ∃ N, Rng N ∧ Blk wr g 62 (nums N) ∧ Upd Non w wr) (fun i _ => n - (intOf i).toNat)
   case atStart => exact ⟨0, by omega, by omega, rfl, zeroN, zeroN_rng, b2, hu2⟩
   case round =>
     obtain ⟨k, hk, hk2, rfl, N, hN, hb, hu⟩ := hrel
     by_cases hlt : k < n ∧ k < m ∧ k < 200
     · obtain ⟨h1, h2, h3⟩ := hlt
       obtain ⟨b, o, rfl, hbw, hr⟩ := HA.out k h1
       obtain ⟨b', o', rfl, hbw', hc⟩ := HB.out k h2
       have hr1 := rangeAt_upd hu hr hbw (fun h => h)
       have hc1 := (hu.cell (p := ⟨b', o' + k, none⟩) hbw' (fun h => h)).trans hc
       clear hr hc
       have h1' : (k : Int) < (n : Int) := by omega
       have h2' : (k : Int) < (m : Int) := by omega
       have h3' : (k : Int) < 200 := by omega
       have h0' : (0 : Int) ≤ (k : Int) := by omega
       have e0 : wr.cell? ⟨b, o + k * 16, none⟩ = some (.int .i64 (cs k).op) := hr1 0 _ rfl
       have e1 : wr.cell? ⟨b, o + k * 16 + 1, none⟩ = some ((cs k).x 1) := hr1 1 _ rfl
       have e2 : wr.cell? ⟨b, o + k * 16 + 2, none⟩ = some ((cs k).x 2) := hr1 2 _ rfl
       have e3 : wr.cell? ⟨b, o + k * 16 + 3, none⟩ = some ((cs k).x 3) := hr1 3 _ rfl
       have e4 : wr.cell? ⟨b, o + k * 16 + 4, none⟩ = some ((cs k).x 4) := hr1 4 _ rfl
       have e5 : wr.cell? ⟨b, o + k * 16 + 5, none⟩ = some ((cs k).x 5) := hr1 5 _ rfl
       have e6 : wr.cell? ⟨b, o + k * 16 + 6, none⟩ = some ((cs k).x 6) := hr1 6 _ rfl
       have e7 : wr.cell? ⟨b, o + k * 16 + 7, none⟩ = some ((cs k).x 7) := hr1 7 _ rfl
       have e8 : wr.cell? ⟨b, o + k * 16 + 8, none⟩ = some (.bool (cs k).cas) := hr1 8 _ rfl
       have e9 : wr.cell? ⟨b, o + k * 16 + 9, none⟩ = some ((cs k).x 9) := hr1 9 _ rfl
       have e10 : wr.cell? ⟨b, o + k * 16 + 10, none⟩ = some ((cs k).x 10) := hr1 10 _ rfl
       have e11 : wr.cell? ⟨b, o + k * 16 + 11, none⟩ = some (.bool (cs k).down) := hr1 11 _ rfl
       have e12 : wr.cell? ⟨b, o + k * 16 + 12, none⟩ = some ((cs k).x 12) := hr1 12 _ rfl
       have e13 : wr.cell? ⟨b, o + k * 16 + 13, none⟩ = some ((cs k).x 13) := hr1 13 _ rfl
       have e14 : wr.cell? ⟨b, o + k * 16 + 14, none⟩ = some ((cs k).x 14) := hr1 14 _ rfl
       have e15 : wr.cell? ⟨b, o + k * 16 + 15, none⟩ = some ((cs k).x 15) := hr1 15 _ rfl
       go_wp2_with fail
       go_still_tail 11, (by kernel_rfl)
       go_wp2_with fail
       refine (count g N hN (cs k).op (st k) (cs k).cas (cs k).down k (cs k).x ans0 _ hb.drew).mono ?_
       rintro e w3 ⟨rfl, b3, v1⟩
       have v1 := Upd.undrew v1
       clear e0 e1 e2 e3 e4 e5 e6 e7 e8 e9 e10 e11 e12 e13 e14 e15 hr1 hc1
       go_wp2_with fail
       go_roundw
       case rel => exact ⟨k + 1, by omega, by omega, by go_num, _, step_rng hN _ _ _ _ _, b3, hu.trans v1 (fun i hi h => by unfold One at h; omega)⟩
       case measure => simp [intOf]; omega
     · by_cases h1 : k < n
       · by_cases h2 : k < m
         · obtain rfl : k = 200 := by omega
           have h1' : (200 : Int) < (n : Int) := by omega
           have h2' : (200 : Int) < (m : Int) := by omega
           go_wp2_with fail
           go_meet
           exact ⟨N, hb, hu⟩
         · have h1' : (k : Int) < (n : Int) := by omega
           have h2' : ¬ (k : Int) < (m : Int) := by omega
           go_wp2_with fail
           go_meet
           exact ⟨N, hb, hu⟩
       · have h1' : ¬ (k : Int) < (n : Int) := by omega
         go_wp2_with fail
         go_meet
         exact ⟨N, hb, hu⟩
  case rest =>
    obtain ⟨N, hb, hu⟩ := hcut
    go_wp2_with fail
    refine (reset g N wc hb).mono ?_
    rintro e w4 ⟨rfl, b4, v4⟩
    go_wp2_with fail
    have hu4 : Upd Non w w4 := hu.trans v4 (fun i hi h => by unfold One at h; omega)
    refine (lines g zeroN zeroN_rng w4 b4 (htab.below hu4.to_below)).mono ?_
    rintro e w5 ⟨va, rfl, ha, v5⟩
    obtain ⟨a, ca, rfl, hla⟩ := txts_own (l := linesL zeroN 18) (v := va) ha
    have hu5 : Upd Non w w5 := hu4.below v5
    go_wp2_with fail
    refine (new w5).mono ?_
    rintro e w6 ⟨rfl, b6, v6⟩
    have hu6 : Upd Non w w6 := hu5.below v6
    go_wp2_with fail
    refine (lines _ zeroN zeroN_rng w6 b6 (htab.below hu6.to_below)).mono ?_
    rintro e w7 ⟨vb, rfl, hb7, v7⟩
    obtain ⟨b, cb, rfl, hlb⟩ := txts_own (l := linesL zeroN 18) (v := vb) hb7
    have hu7 : Upd Non w w7 := hu6.below v7
    have hla7 : ∀ k s, (linesL zeroN 18)[k]? = some s → ∃ q, a = some ⟨q, 0, none⟩ ∧ w7.cell? ⟨q, k, none⟩ = some (.string ⟨s.toArray⟩) := fun k s h => by
      obtain ⟨q, e, hc, _, hq⟩ := hla k s h
      exact ⟨q, e, (v7.cell (p := ⟨q, k, none⟩) (Nat.lt_of_lt_of_le hq v6.size)).trans ((v6.cell (p := ⟨q, k, none⟩) hq).trans hc)⟩
    have HA7 := Lib.hid hla7; have HB7 := Lib.hid hlb; clear hla hla7 hlb ha hb7
    go_wp2_with fail
    go_loopw [10] (fun i wr => ∃ k : Nat, k ≤ 18 ∧ i = .int .i64 k ∧ ∃ q, wr = w7.drewN q) (fun i _ => 18 - (intOf i).toNat)
    case atStart => exact ⟨0, by omega, rfl, 0, by simp [World.drewN_zero]⟩
    case round =>
      obtain ⟨k, hk, rfl, q, rfl⟩ := hrel
      by_cases hlt : k < 18
      · obtain ⟨g1, rfl, hc1⟩ := HA7.out k _ (linesL_get zeroN 18 k hlt)
        obtain ⟨g2, rfl, hc2, _, _⟩ := HB7.out k _ (linesL_get zeroN 18 k hlt)
        obtain ⟨s, hs⟩ : ∃ s, s = lineL (nameL k) (zeroN k) := ⟨_, rfl⟩
        rw [← hs] at hc1 hc2
        obtain ⟨p, hp, hp2⟩ : ∃ p : List UInt8, s = p ++ [32, 48] ∧ p.length ≤ 2000 := ⟨[83, 84, 65, 84, 32] ++ nameL k, by rw [hs]; unfold lineL zeroN; rw [decI_small (by omega) (by omega)]; simp, by have := nameL_len k; simp; omega⟩
        have hl2 : s.length = p.length + 2 := by rw [hp]; simp
        have HL2 := Lib.hid hl2
        have hl3 : 2 ≤ s.length := by omega
        have hl4 : s.length ≤ 2002 := by omega
        have hl5 : (2 : Int) ≤ (s.length : Int) := by omega
        have hsl : ∀ W, (Instr.slice 9 (.string ⟨s.toArray⟩) (some (.int .i64 ((s.length : Int) - 2))) none none).run Tryd.prog W = .ok (.string ⟨#[32, 48]⟩) W := fun W => by
          rw [run_slice_string_l (P := Tryd.prog) W 9 ⟨s.toArray⟩ Tryd.underlying9 .i64 ((s.length : Int) - 2) (by omega) (by show _ ≤ ((s.toArray.size : Nat) : Int); simp; omega)]
          rw [show ((s.length : Int) - 2).toNat = p.length by omega, hp]
          exact congrArg (fun b => Result.ok (Value.string b) W) (tail_two p)
        have hlt' : (k : Int) < 18 := by omega
        have hk0 : (0 : Int) ≤ (k : Int) := by omega
        have hw : IntKind.i64.wrap ((s.length : Int) - 2) = (s.length : Int) - 2 := by rw [IntKind.wrap_i64]; omega
        have hd : decide ((s.length : Int) < 2) = false := by simp; omega
        have hd2 : decide (s.length < 2) = false := by simp; omega
        clear hs hp hl2
        go_wp2_with fail
        go_region
        go_wp2_with fail
        go_roundw
        case rel => exact ⟨k + 1, by omega, by go_num, q + 1, rfl⟩
        case measure => simp [intOf]; omega
      · obtain rfl : k = 18 := by omega
        go_wp2_with fail
        go_ret
        exact ⟨rfl, hu7.to_below.trans ⟨rfl, rfl, rfl, Nat.le_refl _, fun _ _ => rfl⟩⟩
end Go.Proofs.YtjfkfnlnjklcdaaDoor
