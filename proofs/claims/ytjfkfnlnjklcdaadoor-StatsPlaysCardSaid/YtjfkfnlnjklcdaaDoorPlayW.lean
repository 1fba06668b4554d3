/- StatsPlays: the walk: what is counted is told alike by package stats and by its reference. -/
import Derived.Test.YtjfkfnlnjklcdaaDoorResW
namespace Go.Proofs.YtjfkfnlnjklcdaaDoor
open Go.RowKit

theorem size29 : (Tryd.prog.info? 29).map (·.size) = some zeros18.size := by kernel_rfl
theorem txts_at {w : World} {B : Nat} {e : TypeId} {v : Value} {l : List (List UInt8)} {n : Nat} (hn : n = l.length) (h0 : 0 < n) (h : w.ownsRow B e 1 v n (strs l)) :
    ∃ b c, v = .slice (some ⟨b, 0, none⟩) n c ∧ B ≤ b ∧ b < w.heap.size ∧ ∀ k s, l[k]? = some s → ∃ q, (some (⟨b, 0, none⟩ : Addr)) = some ⟨q, 0, none⟩ ∧ w.cell? ⟨q, k, none⟩ = some (.string ⟨s.toArray⟩) := by
  subst hn
  obtain ⟨a, c, rfl, hl⟩ := txts_own h
  obtain ⟨b, rfl, _, hB, hb⟩ := hl 0 _ (List.getElem?_eq_getElem h0)
  exact ⟨b, c, rfl, hB, hb, fun k s hk => by obtain ⟨q, e, hc, _⟩ := hl k s hk; exact ⟨q, e, hc⟩⟩

set_option maxRecDepth 100000 in
set_option maxHeartbeats 8000000 in
theorem plays_walk (A B C : Option Addr) (n m r c d e : Nat) (reset' : Int) (cs : Nat → Cmd) (st lo : Nat → Int) (hn : n ≤ maxLen) (hm : m ≤ maxLen) (_hr : r ≤ maxLen) (w : World) (htab : Pow w)
    (hA : ∀ k, k < n → ∃ b o, A = some ⟨b, o, none⟩ ∧ b < w.heap.size ∧ w.rangeAt b (o + k * 16) (cs k).cells)
    (hB : ∀ k, k < m → ∃ b o, B = some ⟨b, o, none⟩ ∧ b < w.heap.size ∧ w.cell? ⟨b, o + k, none⟩ = some (.int .i64 (st k)))
    (hC : ∀ k, k < r → ∃ b o, C = some ⟨b, o, none⟩ ∧ b < w.heap.size ∧ w.cell? ⟨b, o + k, none⟩ = some (.int .i64 (lo k))) :
    Calls Tryd.prog 3 #[.slice A n c, .slice B m d, .slice C r e, .int .i64 reset'] w fun e w' => e = .returned (.bool true) ∧ Below w.heap.size w w' := by
  unfold maxLen at hn hm
  have HA := Lib.hid hA; have HB := Lib.hid hB; have HC := Lib.hid hC; clear hA hB hC
  go_enter Tryd.func3, Tryd.ntmps3
  go_wp2_with fail
  refine (shown w htab).mono ?_
  rintro e w1 ⟨rfl, u1⟩
  go_wp2_with fail
  refine (new w1).mono ?_
  rintro e w2 ⟨rfl, b2, u2⟩
  go_upto_block 0 with fail
  have hs1 := u1.size
  have hs2 := b2.lt
  obtain ⟨g, hg⟩ : ∃ g, g = w1.heap.size := ⟨_, rfl⟩
  rw [← hg] at b2 hs2 ⊢
  have r3 : Blk (w2.alloc (.cells zeros18 31)) w2.heap.size 31 (nums zeroN) := (Blk.new w2 _ _).to zeros18_eq
  have b3 := b2.alloc (.cells zeros18 31)
  have hu3 : Upd Non w (w2.alloc (.cells zeros18 31)) := (((Upd.refl Non w).below u1).below u2).alloc _
  obtain ⟨g2, hg2⟩ : ∃ g2, g2 = w2.heap.size := ⟨_, rfl⟩
  rw [← hg2] at r3 ⊢
  have hgw : w.heap.size ≤ g := by omega
  have hgg : g < g2 := by omega
  have HG := Lib.hid hg; have HG2 := Lib.hid hg2; clear hg hg2
  go_cut [12] (fun _ wx => ∃ N, Rng N ∧ Blk wx g 62 (nums N) ∧ Blk wx g2 31 (nums N) ∧ Upd Non w wx)
  case first =>
   go_wp2_with fail
   go_loopw [12] (fun i wr => ∃ k : Nat, k ≤ n ∧ k ≤ 200 ∧ i = .int .i64 k ∧ ∃ N, Rng N ∧ Blk wr g 62 (nums N) ∧ Blk wr g2 31 (nums N) ∧ Upd Non w wr) (fun i _ => n - (intOf i).toNat)
   case atStart => exact ⟨0, by omega, by omega, rfl, zeroN, zeroN_rng, b3, r3, hu3⟩
   case round =>
    obtain ⟨k, hk, hk2, rfl, N, hN, hb, hb2, hu⟩ := hrel
    by_cases hlt : k < n ∧ k < m ∧ k < 200
    · obtain ⟨h1, h2, h3⟩ := hlt
      obtain ⟨b, o, rfl, hbw, hr⟩ := HA.out k h1
      obtain ⟨b', o', rfl, hbw', hc⟩ := HB.out k h2
      have hr1 := rangeAt_upd hu hr hbw (fun h => h)
      have hc1 := (hu.cell (p := ⟨b', o' + k, none⟩) hbw' (fun h => h)).trans hc
      clear hr hc
      have h1' : (k : Int) < (n : Int) := by omega
      have h2' : (k : Int) < (m : Int) := by omega
      have h3' : (k : Int) < 200 := by omega
      have h0' : (0 : Int) ≤ (k : Int) := by omega
      have hgb : b ≠ g := by omega
      have hgb' : b' ≠ g := by omega
      have hgb2 : b ≠ g2 := by omega
      have hgb2' : b' ≠ g2 := by omega
      go_upto_if 46 with fail
      go_cut [13] (fun v wx => ∃ q, v = .int .i64 q ∧ wx = wr)
      case first =>
       by_cases h4 : k < r
       · obtain ⟨b'', o'', rfl, hbw'', hc⟩ := HC.out k h4
         have hc2 := (hu.cell (p := ⟨b'', o'' + k, none⟩) hbw'' (fun h => h)).trans hc
         have h4' : (k : Int) < (r : Int) := by omega
         clear hc
         go_wp2_with fail
         go_meet
         exact ⟨_, rfl, rfl⟩
       · have h4' : ¬ (k : Int) < (r : Int) := by omega
         go_wp2_with fail
         go_meet
         exact ⟨_, rfl, rfl⟩
      case rest =>
       obtain ⟨q, rfl, rfl⟩ := hcut
       have e0 : wc.cell? ⟨b, o + k * 16, none⟩ = some (.int .i64 (cs k).op) := hr1 0 _ rfl
       have e1 : wc.cell? ⟨b, o + k * 16 + 1, none⟩ = some ((cs k).x 1) := hr1 1 _ rfl
       have e2 : wc.cell? ⟨b, o + k * 16 + 2, none⟩ = some ((cs k).x 2) := hr1 2 _ rfl
       have e3 : wc.cell? ⟨b, o + k * 16 + 3, none⟩ = some ((cs k).x 3) := hr1 3 _ rfl
       have e4 : wc.cell? ⟨b, o + k * 16 + 4, none⟩ = some ((cs k).x 4) := hr1 4 _ rfl
       have e5 : wc.cell? ⟨b, o + k * 16 + 5, none⟩ = some ((cs k).x 5) := hr1 5 _ rfl
       have e6 : wc.cell? ⟨b, o + k * 16 + 6, none⟩ = some ((cs k).x 6) := hr1 6 _ rfl
       have e7 : wc.cell? ⟨b, o + k * 16 + 7, none⟩ = some ((cs k).x 7) := hr1 7 _ rfl
       have e8 : wc.cell? ⟨b, o + k * 16 + 8, none⟩ = some (.bool (cs k).cas) := hr1 8 _ rfl
       have e9 : wc.cell? ⟨b, o + k * 16 + 9, none⟩ = some ((cs k).x 9) := hr1 9 _ rfl
       have e10 : wc.cell? ⟨b, o + k * 16 + 10, none⟩ = some ((cs k).x 10) := hr1 10 _ rfl
       have e11 : wc.cell? ⟨b, o + k * 16 + 11, none⟩ = some (.bool (cs k).down) := hr1 11 _ rfl
       have e12 : wc.cell? ⟨b, o + k * 16 + 12, none⟩ = some ((cs k).x 12) := hr1 12 _ rfl
       have e13 : wc.cell? ⟨b, o + k * 16 + 13, none⟩ = some ((cs k).x 13) := hr1 13 _ rfl
       have e14 : wc.cell? ⟨b, o + k * 16 + 14, none⟩ = some ((cs k).x 14) := hr1 14 _ rfl
       have e15 : wc.cell? ⟨b, o + k * 16 + 15, none⟩ = some ((cs k).x 15) := hr1 15 _ rfl
       go_upto_region 12 with fail
       go_still_tail 11, (by kernel_rfl)
       go_wp2_with fail
       refine (count g N hN (cs k).op (st k) (cs k).cas (cs k).down q (cs k).x ans0 _ hb.drew).mono ?_
       rintro e w3 ⟨rfl, p3, v3⟩
       have v3 := Upd.undrew v3
       have p3' := hb2.upd v3 (by unfold One; omega)
       have hr3 := rangeAt_upd v3 hr1 (Nat.lt_of_lt_of_le hbw hu.size) hgb
       have hc3 := (v3.cell (p := ⟨b', o' + k, none⟩) (Nat.lt_of_lt_of_le hbw' hu.size) hgb').trans hc1
       clear e0 e1 e2 e3 e4 e5 e6 e7 e8 e9 e10 e11 e12 e13 e14 e15
       have e0 : w3.cell? ⟨b, o + k * 16, none⟩ = some (.int .i64 (cs k).op) := hr3 0 _ rfl
       have e1 : w3.cell? ⟨b, o + k * 16 + 1, none⟩ = some ((cs k).x 1) := hr3 1 _ rfl
       have e2 : w3.cell? ⟨b, o + k * 16 + 2, none⟩ = some ((cs k).x 2) := hr3 2 _ rfl
       have e3 : w3.cell? ⟨b, o + k * 16 + 3, none⟩ = some ((cs k).x 3) := hr3 3 _ rfl
       have e4 : w3.cell? ⟨b, o + k * 16 + 4, none⟩ = some ((cs k).x 4) := hr3 4 _ rfl
       have e5 : w3.cell? ⟨b, o + k * 16 + 5, none⟩ = some ((cs k).x 5) := hr3 5 _ rfl
       have e6 : w3.cell? ⟨b, o + k * 16 + 6, none⟩ = some ((cs k).x 6) := hr3 6 _ rfl
       have e7 : w3.cell? ⟨b, o + k * 16 + 7, none⟩ = some ((cs k).x 7) := hr3 7 _ rfl
       have e8 : w3.cell? ⟨b, o + k * 16 + 8, none⟩ = some (.bool (cs k).cas) := hr3 8 _ rfl
       have e9 : w3.cell? ⟨b, o + k * 16 + 9, none⟩ = some ((cs k).x 9) := hr3 9 _ rfl
       have e10 : w3.cell? ⟨b, o + k * 16 + 10, none⟩ = some ((cs k).x 10) := hr3 10 _ rfl
       have e11 : w3.cell? ⟨b, o + k * 16 + 11, none⟩ = some (.bool (cs k).down) := hr3 11 _ rfl
       have e12 : w3.cell? ⟨b, o + k * 16 + 12, none⟩ = some ((cs k).x 12) := hr3 12 _ rfl
       have e13 : w3.cell? ⟨b, o + k * 16 + 13, none⟩ = some ((cs k).x 13) := hr3 13 _ rfl
       have e14 : w3.cell? ⟨b, o + k * 16 + 14, none⟩ = some ((cs k).x 14) := hr3 14 _ rfl
       have e15 : w3.cell? ⟨b, o + k * 16 + 15, none⟩ = some ((cs k).x 15) := hr3 15 _ rfl
       go_upto_region 13 with fail
       go_still_tail 11, (by kernel_rfl)
       go_wp2_with fail
       refine (rcount g2 N (cs k).op (st k) (cs k).cas (cs k).down q (cs k).x ans0 _ p3'.drew).mono ?_
       rintro e w4 ⟨rfl, p4', v4⟩
       have v4 := Upd.undrew v4
       have p4 := p3.upd v4 (by unfold One; omega)
       clear e0 e1 e2 e3 e4 e5 e6 e7 e8 e9 e10 e11 e12 e13 e14 e15
       clear hr1 hc1 hr3 hc3
       have hu4 : Upd Non w w4 := (hu.trans v3 (fun i hi h => by unfold One at h; omega)).trans v4 (fun i hi h => by unfold One at h; omega)
       have hN4 := step_rng hN (cs k).op (st k) q (cs k).cas (cs k).down
       generalize step (cs k).op (st k) q (cs k).cas (cs k).down N = N4 at p4 p4' hN4
       go_upto_if 77 with fail
       go_cut [] (fun wx => ∃ M, Rng M ∧ Blk wx g 62 (nums M) ∧ Blk wx g2 31 (nums M) ∧ Upd Non w wx)
       case first =>
        by_cases h5 : (k : Int) = reset'
        · have h5' : ((k : Int) == reset') = true := by simpa using h5
          have H5 := Lib.hid h5; clear h5
          go_wp2_with fail
          refine (reset g N4 w4 p4).mono ?_
          rintro e w5 ⟨rfl, p5, v5⟩
          have p5' := Lib.hid (p4'.upd v5 (by unfold One; omega))
          have P5 := Lib.hid p5; clear p5
          go_wp2_with (refine wpList_store_row rfl 29 _ _ rfl g2 zeros18 rfl rfl 31 (nums N4) p5'.out size29 (by simp [nums, zeros18]) zeros18_one ?_)
          go_meet
          exact ⟨zeroN, zeroN_rng, P5.out.farRow (by omega) _, (p5'.out.setRow _).to zeros18_eq, (hu4.trans v5 (fun i hi h => by unfold One at h; omega)).setRow (fun h => by omega) _⟩
        · have h5' : ((k : Int) == reset') = false := by simpa using h5
          have H5 := Lib.hid h5; clear h5
          go_wp2_with fail
          go_meet
          exact ⟨N4, hN4, p4, p4', hu4⟩
       case rest =>
        obtain ⟨M, hM, hb, hb2, hu⟩ := hcut
        clear p4 p4' hu4 hN4 p3 p3' v3 v4
        by_cases hcont : ¬ (k : Int) % 10 = 9 ∧ ¬ (k : Int) = (n : Int) - 1
        · obtain ⟨x1, x2⟩ := hcont
          have y1 : ((k : Int) % 10 != 9) = true := by simpa using x1
          have y2 : ((k : Int) != (n : Int) - 1) = true := by simpa using x2
          have X1 := Lib.hid x1; have X2 := Lib.hid x2; clear x1 x2
          go_wp2_with fail
          go_roundw
          case rel => exact ⟨k + 1, by omega, by omega, by go_num, M, hM, hb, hb2, hu⟩
          case measure => simp [intOf]; omega
        · go_upto_region 17 with fail
          go_cut [93] (fun v wx => v = .bool false ∧ wx = wc)
          case first =>
            by_cases x1 : (k : Int) % 10 = 9
            · have y1 : ((k : Int) % 10 != 9) = false := by simpa using x1
              have X1 := Lib.hid x1; clear x1
              go_wp2_with fail
              go_meet
              exact ⟨rfl, rfl⟩
            · have x2 : (k : Int) = (n : Int) - 1 := by
                refine Classical.byContradiction fun h => hcont ⟨x1, h⟩
              have y1 : ((k : Int) % 10 != 9) = true := by simpa using x1
              have y2 : ((k : Int) != (n : Int) - 1) = false := by simpa using x2
              have X1 := Lib.hid x1; have X2 := Lib.hid x2; clear x1 x2
              go_wp2_with fail
              go_meet
              exact ⟨rfl, rfl⟩
          case rest =>
            obtain ⟨rfl, rfl⟩ := hcut
            go_wp2_with fail
            refine (lines g M hM _ hb (htab.below hu.to_below)).mono ?_
            rintro e w5 ⟨va, rfl, ha, v5⟩
            obtain ⟨qa, ca, rfl, hqa0, hqa, hla⟩ := txts_at (l := linesL M 18) (linesL_len M 18).symm (by omega) ha
            have hqg : qa ≠ g := by have := hb.lt; omega
            have hqg2 : qa ≠ g2 := by have := hb2.lt; omega
            have hqw : w.heap.size ≤ qa := Nat.le_trans hu.size hqa0
            have hb5 := hb.below v5
            have hb25 := hb2.below v5
            have hu5 : Upd Non w w5 := hu.below v5
            go_wp2_with fail
            refine (rlines g2 M hM w5 hb25).mono ?_
            rintro e w6 ⟨vb, rfl, hb6, v6⟩
            obtain ⟨qb, cb, rfl, _, _, hlb⟩ := txts_at (l := linesL M 18) (linesL_len M 18).symm (by omega) hb6
            have ha6 := ownsRow_below ha v6
            have hb66 := hb5.below v6
            have hb26 := hb25.below v6
            have hu6 : Upd Non w w6 := hu5.below v6
            go_wp2_with fail
            have hl := linesL_len M 18
            have hsame := same_eq (linesL M 18) (linesL M 18) rfl (by omega) (some ⟨qa, 0, none⟩) (some ⟨qb, 0, none⟩) ca cb w6 (fun k s h => by obtain ⟨q, e, hc⟩ := hla k s h; exact ⟨q, e, by cases e; exact (v6.cell (p := ⟨qa, k, none⟩) hqa).trans hc⟩) hlb
            rw [hl] at hsame
            refine hsame.mono ?_
            rintro e w7 ⟨rfl, qd, rfl⟩
            have hbb : (linesL M 18 == linesL M 18) = true := by simp
            rw [hbb]
            obtain ⟨B0, xs, hxs⟩ : ∃ B xs, (w6.drewN qd).ownsRow B 9 1 (.slice (some ⟨qa, 0, none⟩) 18 ca) 18 xs := ⟨_, _, ha6⟩
            clear hla hlb hsame hbb hl ha ha6 hb6
            have hb67 := hb66.drewN qd
            have hb27 := hb26.drewN qd
            have hu7 := hu6.drewN qd
            go_wp2_with fail
            go_loopw [16] (fun i wr => ∃ j : Nat, j ≤ 18 ∧ i = .int .i64 j ∧ Blk wr g 62 (nums M) ∧ Blk wr g2 31 (nums M) ∧ Upd Non w wr ∧ ∃ B xs, wr.ownsRow B 9 1 (.slice (some ⟨qa, 0, none⟩) 18 ca) 18 xs) (fun i _ => 18 - (intOf i).toNat)
            case atStart => exact ⟨0, by omega, rfl, hb67, hb27, hu7, _, xs, hxs⟩
            case round =>
              obtain ⟨j, hj, rfl, hbj, hb2j, huj, B, ys, hys⟩ := hrel
              by_cases hlj : j < 18
              · have hyl : ys.length = 18 := by have := hys.1; omega
                have hcj : wr.cell? ⟨qa, j, none⟩ = some (ys[j]'(by omega)) := by rw [hys.cellAt j (by omega)]; exact List.getElem?_eq_getElem _
                have hfj := hys.frozenAt j
                have hst := (hys.stored j (.string ⟨#[63]⟩)).1
                have HYS := Lib.hid hys; have HST := Lib.hid hst; clear hys hst
                have hj' : (j : Int) < 18 := by omega
                have hj0 : (0 : Int) ≤ (j : Int) := by omega
                go_wp2_with fail
                go_roundw
                case rel => exact ⟨j + 1, by omega, by go_num, hbj.far (p := ⟨qa, j, none⟩) (Ne.symm hqg) _, hb2j.far (p := ⟨qa, j, none⟩) (Ne.symm hqg2) _, huj.setNew (p := ⟨qa, j, none⟩) hqw _, _, _, HST.out⟩
                case measure => simp [intOf]; omega
              · have hj' : ¬ (j : Int) < 18 := by omega
                go_wp2_with fail
                go_roundw
                case rel => exact ⟨k + 1, by omega, by omega, by go_num, M, hM, hbj, hb2j, huj⟩
                case measure => simp [intOf]; omega
    · by_cases h1 : k < n
      · by_cases h2 : k < m
        · obtain rfl : k = 200 := by omega
          have h1' : (200 : Int) < (n : Int) := by omega
          have h2' : (200 : Int) < (m : Int) := by omega
          go_wp2_with fail
          go_meet
          exact ⟨N, hN, hb, hb2, hu⟩
        · have h1' : (k : Int) < (n : Int) := by omega
          have h2' : ¬ (k : Int) < (m : Int) := by omega
          go_wp2_with fail
          go_meet
          exact ⟨N, hN, hb, hb2, hu⟩
      · have h1' : ¬ (k : Int) < (n : Int) := by omega
        go_wp2_with fail
        go_meet
        exact ⟨N, hN, hb, hb2, hu⟩
  case rest =>
    obtain ⟨N, hN, hb, hb2, hu⟩ := hcut
    go_wp2_with fail
    refine (lines g N hN wc hb (htab.below hu.to_below)).mono ?_
    rintro e w5 ⟨va, rfl, ha, v5⟩
    obtain ⟨qa, ca, rfl, _, hqa, hla⟩ := txts_at (l := linesL N 18) (linesL_len N 18).symm (by omega) ha
    go_wp2_with fail
    refine (rlines g2 N hN w5 (hb2.below v5)).mono ?_
    rintro e w6 ⟨vb, rfl, hb6, v6⟩
    obtain ⟨qb, cb, rfl, _, _, hlb⟩ := txts_at (l := linesL N 18) (linesL_len N 18).symm (by omega) hb6
    go_wp2_with fail
    have hl := linesL_len N 18
    have hsame := same_eq (linesL N 18) (linesL N 18) rfl (by omega) (some ⟨qa, 0, none⟩) (some ⟨qb, 0, none⟩) ca cb w6 (fun k s h => by obtain ⟨q, e, hc⟩ := hla k s h; exact ⟨q, e, by cases e; exact (v6.cell (p := ⟨qa, k, none⟩) hqa).trans hc⟩) hlb
    rw [hl] at hsame
    refine hsame.mono ?_
    rintro e w7 ⟨rfl, q, rfl⟩
    go_wp2_with fail
    go_ret
    exact ⟨ret_bool (by simp), (hu.below v5).to_below.trans ((v6.mono v5.size).mono hu.size |>.trans ⟨rfl, rfl, rfl, Nat.le_refl _, fun _ _ => rfl⟩)⟩
end Go.Proofs.YtjfkfnlnjklcdaaDoor
