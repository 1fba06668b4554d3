/- StatsSums: the walk. -/
import Derived.Test.YtjfkfnlnjklcdaaDoorSumsR
namespace Go.Proofs.YtjfkfnlnjklcdaaDoor
open Go.RowKit
set_option maxRecDepth 100000 in
set_option maxHeartbeats 8000000 in
theorem sums_walk (A B : Option Addr) (n m c d : Nat) (cs : Nat → Cmd) (st : Nat → Int) (hn : n ≤ maxLen) (hm : m ≤ maxLen) (w : World) (henv : EnvW w)
    (hA : ∀ k, k < n → ∃ b o, A = some ⟨b, o, none⟩ ∧ b < w.heap.size ∧ w.rangeAt b (o + k * 16) (cs k).cells)
    (hB : ∀ k, k < m → ∃ b o, B = some ⟨b, o, none⟩ ∧ b < w.heap.size ∧ w.cell? ⟨b, o + k, none⟩ = some (.int .i64 (st k))) :
    Calls Tryd.prog 13 #[.slice A n c, .slice B m d] w fun e w' => e = .returned (.bool true) ∧ Below w.heap.size w w' := by
  unfold maxLen at hn hm
  have HA := Lib.hid hA; have HB := Lib.hid hB; clear hA hB
  go_enter Tryd.func13, Tryd.ntmps13
  go_wp2_with fail
  refine (shown w henv.env.pow).mono ?_
  rintro e w1 ⟨rfl, u1⟩
  go_wp2_with fail
  refine (new w1).mono ?_
  rintro e w2 ⟨rfl, b2, u2⟩
  have hs1 := u1.size
  have hs2 := b2.lt
  have hu2 : Upd Non w w2 := ((Upd.refl Non w).below u1).below u2
  obtain ⟨g, hg⟩ : ∃ g, g = w1.heap.size := ⟨_, rfl⟩
  rw [← hg] at b2 hs2 ⊢
  have hgw : w.heap.size ≤ g := by omega
  have HG := Lib.hid hg; clear hg
  go_upto_block 0 with fail
  have b3 := Blk.new w2 59 (nums8 zeroN)
  have b2' := b2.alloc (.cells (nums8 zeroN) 59)
  have hu3 := hu2.alloc (.cells (nums8 zeroN) 59)
  obtain ⟨gm, hgm⟩ : ∃ gm, gm = w2.heap.size := ⟨_, rfl⟩
  have hne : g ≠ gm := by omega
  have hgmw : w.heap.size ≤ gm := by omega
  rw [← hgm] at b3 ⊢
  have HGM := Lib.hid hgm; clear hgm
  obtain ⟨w3, hw3⟩ : ∃ w3, w3 = w2.alloc (.cells (nums8 zeroN) 59) := ⟨_, rfl⟩
  rw [← hw3] at b3 b2' hu3
  have HW3 : w2.alloc (.cells #[.int .u64 0, .int .u64 0, .int .u64 0, .int .u64 0, .int .u64 0, .int .u64 0, .int .u64 0, .int .u64 0] 59) = w3 := hw3.symm
  rw [HW3]
  clear HW3 hw3 b2
  go_cut [8] (fun _ wx => ∃ N M, ∃ k : Int, k ≤ 200 ∧ Sums k N M ∧ Blk wx g 62 (nums N) ∧ Blk wx gm 59 (nums8 M) ∧ Upd Non w wx)
  case first =>
   go_wp2_with fail
   go_loopw [8] (fun i wr => ∃ k : Nat, k ≤ n ∧ k ≤ 200 ∧ i = .int .i64 k ∧ ∃ N M, Rng N ∧ Sums k N M ∧ Blk wr g 62 (nums N) ∧ Blk wr gm 59 (nums8 M) ∧ Upd Non w wr) (fun i _ => n - (intOf i).toNat)
   case atStart => exact ⟨0, by omega, by omega, rfl, zeroN, zeroN, zeroN_rng, Sums.zero, b2', b3, hu3⟩
   case round =>
    obtain ⟨k, hk, hk2, rfl, N, M, hN, hS, hb, hbm, hu⟩ := hrel
    by_cases hlt : k < n ∧ k < m ∧ k < 200
    · obtain ⟨h1, h2, h3⟩ := hlt
      obtain ⟨b, o, rfl, hbw, hr⟩ := HA.out k h1
      obtain ⟨b', o', rfl, hbw', hc⟩ := HB.out k h2
      have hr1 := rangeAt_upd hu hr hbw (fun h => h)
      have hc1 := (hu.cell (p := ⟨b', o' + k, none⟩) hbw' (fun h => h)).trans hc
      clear hr hc
      have h1' : (k : Int) < (n : Int) := by omega
      have h2' : (k : Int) < (m : Int) := by omega
      have h3' : (k : Int) < 200 := by omega
      have h0' : (0 : Int) ≤ (k : Int) := by omega
      have e0 : wr.cell? ⟨b, o + k * 16, none⟩ = some (.int .i64 (cs k).op) := hr1 0 _ rfl
      have e1 : wr.cell? ⟨b, o + k * 16 + 1, none⟩ = some ((cs k).x 1) := hr1 1 _ rfl
      have e2 : wr.cell? ⟨b, o + k * 16 + 2, none⟩ = some ((cs k).x 2) := hr1 2 _ rfl
      have e3 : wr.cell? ⟨b, o + k * 16 + 3, none⟩ = some ((cs k).x 3) := hr1 3 _ rfl
      have e4 : wr.cell? ⟨b, o + k * 16 + 4, none⟩ = some ((cs k).x 4) := hr1 4 _ rfl
      have e5 : wr.cell? ⟨b, o + k * 16 + 5, none⟩ = some ((cs k).x 5) := hr1 5 _ rfl
      have e6 : wr.cell? ⟨b, o + k * 16 + 6, none⟩ = some ((cs k).x 6) := hr1 6 _ rfl
      have e7 : wr.cell? ⟨b, o + k * 16 + 7, none⟩ = some ((cs k).x 7) := hr1 7 _ rfl
      have e8 : wr.cell? ⟨b, o + k * 16 + 8, none⟩ = some (.bool (cs k).cas) := hr1 8 _ rfl
      have e9 : wr.cell? ⟨b, o + k * 16 + 9, none⟩ = some ((cs k).x 9) := hr1 9 _ rfl
      have e10 : wr.cell? ⟨b, o + k * 16 + 10, none⟩ = some ((cs k).x 10) := hr1 10 _ rfl
      have e11 : wr.cell? ⟨b, o + k * 16 + 11, none⟩ = some (.bool (cs k).down) := hr1 11 _ rfl
      have e12 : wr.cell? ⟨b, o + k * 16 + 12, none⟩ = some ((cs k).x 12) := hr1 12 _ rfl
      have e13 : wr.cell? ⟨b, o + k * 16 + 13, none⟩ = some ((cs k).x 13) := hr1 13 _ rfl
      have e14 : wr.cell? ⟨b, o + k * 16 + 14, none⟩ = some ((cs k).x 14) := hr1 14 _ rfl
      have e15 : wr.cell? ⟨b, o + k * 16 + 15, none⟩ = some ((cs k).x 15) := hr1 15 _ rfl
      have HS := Lib.hid hS; have HBM := Lib.hid hbm; clear hS hbm
      go_wp2_with fail
      go_still_tail 10, (by kernel_rfl)
      go_wp2_with fail
      refine (count g N hN (cs k).op (st k) (cs k).cas (cs k).down 0 (cs k).x ans0 _ hb.drew).mono ?_
      rintro e w4 ⟨rfl, b4, v1⟩
      have v1 := Upd.undrew v1
      have f0 : w4.cell? ⟨b, o + k * 16, none⟩ = some (.int .i64 (cs k).op) := (v1.cell (p := ⟨b, o + k * 16, none⟩) (by have := hu.size; show b < _; omega) (by unfold One; show ¬ b = g; omega)).trans e0
      have f1 : w4.cell? ⟨b', o' + k, none⟩ = some (.int .i64 (st k)) := (v1.cell (p := ⟨b', o' + k, none⟩) (by have := hu.size; show b' < _; omega) (by unfold One; show ¬ b' = g; omega)).trans hc1
      have bm4 := HBM.out.upd v1 (by unfold One; omega)
      have hu4 : Upd Non w w4 := hu.trans v1 (fun i hi h => by unfold One at h; omega)
      have hS4 := HS.out.step (by omega) (cs k).op (st k) (cs k).cas (cs k).down
      have hN4 := step_rng hN (cs k).op (st k) 0 (cs k).cas (cs k).down
      clear e0 e1 e2 e3 e4 e5 e6 e7 e8 e9 e10 e11 e12 e13 e14 e15 hr1 hc1
      have HS4 := Lib.hid hS4; have HN4 := Lib.hid hN4; have HB4 := Lib.hid b4; have HBM4 := Lib.hid bm4; have HU4 := Lib.hid hu4
      clear hS4 hN4 b4 bm4 hu4 v1
      obtain ⟨op, hop⟩ : ∃ op, op = (cs k).op := ⟨_, rfl⟩
      obtain ⟨s, hs⟩ : ∃ s, s = st k := ⟨_, rfl⟩
      rw [← hop] at f0; rw [← hs] at f1
      have HOP := Lib.hid hop; have HST := Lib.hid hs; clear hop hs
      by_cases hok : 1 ≤ s ∧ s ≤ 12 ∧ 0 ≤ op ∧ op ≤ 7
      · obtain ⟨g1, g2, g3, g4⟩ := hok
        obtain ⟨p, rfl⟩ := Int.eq_ofNat_of_zero_le g3
        have g5 : p < 8 := by omega
        have hmp : w4.cell? ⟨gm, p, none⟩ = some (.int .u64 (M p)) := (HBM4.out.cell p).trans (nums8_get M p g5)
        have hmf := HBM4.out.frozen p
        have q0 := (HS.out.bm p).1
        have q1 := (HS.out.bm p).2
        have q2 : (p : Int) < 8 := by omega
        go_wp2_with fail
        go_roundw
        case rel =>
          refine ⟨k + 1, by omega, by omega, by go_num, _, _, HN4.out, by rw [Int.natCast_add, Int.natCast_one]; exact HS4.out, HB4.out.far (by show g ≠ gm; omega) _, ?_, HU4.out.setNew (by show _ ≤ gm; omega) _⟩
          rw [← HOP.out, ← HST.out, tally_on M p s ⟨g1, g2, g3, g4⟩]
          refine (HBM4.out.set_ p _).to ?_
          rw [nums8_set M p g5]
          refine congrArg nums8 (funext fun i => ?_)
          by_cases hi : (i : Int) = (p : Int)
          · rw [if_pos hi, if_pos hi]
            obtain rfl : i = p := by omega
            rfl
          · rw [if_neg hi, if_neg hi]
        case measure => simp [intOf]; omega
      · have hT : tally op s M = M := tally_off M op s hok
        have HT := Lib.hid hT; clear hT
        have hcases : s < 1 ∨ (1 ≤ s ∧ 12 < s) ∨ (1 ≤ s ∧ s ≤ 12 ∧ op < 0) ∨ (1 ≤ s ∧ s ≤ 12 ∧ 0 ≤ op ∧ 7 < op) := by omega
        clear hok
        rcases hcases with g1 | ⟨g1, g2⟩ | ⟨g1, g2, g3⟩ | ⟨g1, g2, g3, g4⟩
        all_goals
          go_wp2_with fail
          go_roundw
          case rel =>
            refine ⟨k + 1, by omega, by omega, by go_num, _, M, HN4.out, ?_, HB4.out, HBM4.out, HU4.out⟩
            rw [Int.natCast_add, Int.natCast_one]
            have h := HS4.out
            rw [← HOP.out, ← HST.out, HT.out] at h
            rw [← HOP.out, ← HST.out]
            exact h
          case measure => simp [intOf]; omega
    · by_cases h1 : k < n
      · by_cases h2 : k < m
        · obtain rfl : k = 200 := by omega
          have h1' : (200 : Int) < (n : Int) := by omega
          have h2' : (200 : Int) < (m : Int) := by omega
          have HS := Lib.hid hS; clear hS
          go_wp2_with fail
          go_meet
          exact ⟨N, M, _, by omega, HS.out, hb, hbm, hu⟩
        · have h1' : (k : Int) < (n : Int) := by omega
          have h2' : ¬ (k : Int) < (m : Int) := by omega
          have HS := Lib.hid hS; clear hS
          go_wp2_with fail
          go_meet
          exact ⟨N, M, _, by omega, HS.out, hb, hbm, hu⟩
      · have h1' : ¬ (k : Int) < (n : Int) := by omega
        have HS := Lib.hid hS; clear hS
        go_wp2_with fail
        go_meet
        exact ⟨N, M, _, by omega, HS.out, hb, hbm, hu⟩
  case rest =>
    obtain ⟨N, M, kk, hkk, hS, hb, hbm, hu⟩ := hcut
    have hN : Rng N := fun i => by have := hS.bn i; omega
    have HS := Lib.hid hS; have HBM := Lib.hid hbm; have HU := Lib.hid hu; clear hS hbm hu
    go_wp2_with fail
    refine (lines g N hN wc hb (henv.env.pow.below HU.out.to_below)).mono ?_
    rintro e w5 ⟨va, rfl, ha, v5⟩
    obtain ⟨qa, c, rfl, hla⟩ := txts_own (l := linesL N 18) (v := va) ha
    obtain ⟨q, rfl, _, _, hq⟩ := hla 0 _ (linesL_get N 18 0 (by omega))
    have hcell : ∀ j, j < 18 → w5.cell? ⟨q, j, none⟩ = some (.string ⟨(lineL (nameL j) (N j)).toArray⟩) := fun j hj => by
      obtain ⟨q', e, hc, _⟩ := hla j _ (linesL_get N 18 j hj)
      cases e; exact hc
    have hu5 : Upd Non w w5 := HU.out.below v5
    have he : EnvW w5 := henv.below hu5.to_below
    have hgm : gm < w5.heap.size := Nat.lt_of_lt_of_le HBM.out.lt v5.size
    have hbm5 := HBM.out.below v5
    have hb0 : Below w5.heap.size w5 w5 := Below.refl _ _
    have hS := HS.out
    obtain ⟨n0, en0⟩ : ∃ x, x = N 0 := ⟨_, rfl⟩
    have HL0 := Lib.hid (hcell 0 (by omega)); rw [← en0] at HL0
    have bn0 := hS.bn 0; rw [← en0] at bn0
    obtain ⟨n1, en1⟩ : ∃ x, x = N 1 := ⟨_, rfl⟩
    have HL1 := Lib.hid (hcell 1 (by omega)); rw [← en1] at HL1
    have bn1 := hS.bn 1; rw [← en1] at bn1
    obtain ⟨n2, en2⟩ : ∃ x, x = N 2 := ⟨_, rfl⟩
    have HL2 := Lib.hid (hcell 2 (by omega)); rw [← en2] at HL2
    have bn2 := hS.bn 2; rw [← en2] at bn2
    obtain ⟨n3, en3⟩ : ∃ x, x = N 3 := ⟨_, rfl⟩
    have HL3 := Lib.hid (hcell 3 (by omega)); rw [← en3] at HL3
    have bn3 := hS.bn 3; rw [← en3] at bn3
    obtain ⟨n4, en4⟩ : ∃ x, x = N 4 := ⟨_, rfl⟩
    have HL4 := Lib.hid (hcell 4 (by omega)); rw [← en4] at HL4
    have bn4 := hS.bn 4; rw [← en4] at bn4
    obtain ⟨n5, en5⟩ : ∃ x, x = N 5 := ⟨_, rfl⟩
    have HL5 := Lib.hid (hcell 5 (by omega)); rw [← en5] at HL5
    have bn5 := hS.bn 5; rw [← en5] at bn5
    obtain ⟨n6, en6⟩ : ∃ x, x = N 6 := ⟨_, rfl⟩
    have HL6 := Lib.hid (hcell 6 (by omega)); rw [← en6] at HL6
    have bn6 := hS.bn 6; rw [← en6] at bn6
    obtain ⟨n7, en7⟩ : ∃ x, x = N 7 := ⟨_, rfl⟩
    have HL7 := Lib.hid (hcell 7 (by omega)); rw [← en7] at HL7
    have bn7 := hS.bn 7; rw [← en7] at bn7
    obtain ⟨n12, en12⟩ : ∃ x, x = N 12 := ⟨_, rfl⟩
    have HL12 := Lib.hid (hcell 12 (by omega)); rw [← en12] at HL12
    have bn12 := hS.bn 12; rw [← en12] at bn12
    obtain ⟨n13, en13⟩ : ∃ x, x = N 13 := ⟨_, rfl⟩
    have HL13 := Lib.hid (hcell 13 (by omega)); rw [← en13] at HL13
    have bn13 := hS.bn 13; rw [← en13] at bn13
    obtain ⟨n14, en14⟩ : ∃ x, x = N 14 := ⟨_, rfl⟩
    have HL14 := Lib.hid (hcell 14 (by omega)); rw [← en14] at HL14
    have bn14 := hS.bn 14; rw [← en14] at bn14
    obtain ⟨n15, en15⟩ : ∃ x, x = N 15 := ⟨_, rfl⟩
    have HL15 := Lib.hid (hcell 15 (by omega)); rw [← en15] at HL15
    have bn15 := hS.bn 15; rw [← en15] at bn15
    obtain ⟨n16, en16⟩ : ∃ x, x = N 16 := ⟨_, rfl⟩
    have HL16 := Lib.hid (hcell 16 (by omega)); rw [← en16] at HL16
    have bn16 := hS.bn 16; rw [← en16] at bn16
    obtain ⟨n17, en17⟩ : ∃ x, x = N 17 := ⟨_, rfl⟩
    have HL17 := Lib.hid (hcell 17 (by omega)); rw [← en17] at HL17
    have bn17 := hS.bn 17; rw [← en17] at bn17
    obtain ⟨m1, em1⟩ : ∃ x, x = M 1 := ⟨_, rfl⟩
    have HM1 : Hid (w5.cell? ⟨gm, 1, none⟩ = some (.int .u64 m1)) := Lib.hid (by rw [em1]; exact (hbm5.cell 1).trans rfl)
    have bm1 := hS.bm 1; rw [← em1] at bm1
    obtain ⟨m2, em2⟩ : ∃ x, x = M 2 := ⟨_, rfl⟩
    have HM2 : Hid (w5.cell? ⟨gm, 2, none⟩ = some (.int .u64 m2)) := Lib.hid (by rw [em2]; exact (hbm5.cell 2).trans rfl)
    have bm2 := hS.bm 2; rw [← em2] at bm2
    obtain ⟨m4, em4⟩ : ∃ x, x = M 4 := ⟨_, rfl⟩
    have HM4 : Hid (w5.cell? ⟨gm, 4, none⟩ = some (.int .u64 m4)) := Lib.hid (by rw [em4]; exact (hbm5.cell 4).trans rfl)
    have bm4 := hS.bm 4; rw [← em4] at bm4
    obtain ⟨m5, em5⟩ : ∃ x, x = M 5 := ⟨_, rfl⟩
    have HM5 : Hid (w5.cell? ⟨gm, 5, none⟩ = some (.int .u64 m5)) := Lib.hid (by rw [em5]; exact (hbm5.cell 5).trans rfl)
    have bm5 := hS.bm 5; rw [← em5] at bm5
    obtain ⟨m6, em6⟩ : ∃ x, x = M 6 := ⟨_, rfl⟩
    have HM6 : Hid (w5.cell? ⟨gm, 6, none⟩ = some (.int .u64 m6)) := Lib.hid (by rw [em6]; exact (hbm5.cell 6).trans rfl)
    have bm6 := hS.bm 6; rw [← em6] at bm6
    have r1 : n0 = m1 := by rw [en0, em1]; exact hS.g
    have r2 : n4 + n5 = m1 := by rw [en4, en5, em1]; exact hS.gh
    have r3 : n1 = m2 := by rw [en1, em2]; exact hS.s
    have r4 : n12 + n13 + n14 ≤ m2 := by rw [en12, en13, en14, em2]; exact hS.c
    have r5 : n6 + n7 ≤ m5 := by rw [en6, en7, em5]; exact hS.d
    have r6 : n2 = m4 := by rw [en2, em4]; exact hS.t
    have r7 : n15 + n16 ≤ m4 := by rw [en15, en16, em4]; exact hS.tt
    have r8 : n3 = m6 := by rw [en3, em6]; exact hS.f
    have r9 : n17 = 0 := by rw [en17]; exact hS.e
    have z1 : IntKind.u64.wrap (n4 + n5) = n4 + n5 := by rw [IntKind.wrap_u64]; omega
    have z2 : IntKind.u64.wrap (n12 + n13) = n12 + n13 := by rw [IntKind.wrap_u64]; omega
    have z3 : IntKind.u64.wrap (n12 + n13 + n14) = n12 + n13 + n14 := by rw [IntKind.wrap_u64]; omega
    have z4 : IntKind.u64.wrap (n6 + n7) = n6 + n7 := by rw [IntKind.wrap_u64]; omega
    have z5 : IntKind.u64.wrap (n15 + n16) = n15 + n16 := by rw [IntKind.wrap_u64]; omega
    have t1 : (n0 == m1) = true := beq_iff_eq.2 r1
    have t2 : (n4 + n5 == m1) = true := beq_iff_eq.2 r2
    have t3 : (n1 == m2) = true := beq_iff_eq.2 r3
    have t6 : (n2 == m4) = true := beq_iff_eq.2 r6
    have t8 : (n3 == m6) = true := beq_iff_eq.2 r8
    have t9 : (n17 == 0) = true := beq_iff_eq.2 r9
    have y1 := HM1.out
    have y2 := HM2.out
    have y4 := HM4.out
    have y5 := HM5.out
    have y6 := HM6.out
    clear r1 r2 r3 r6 r8 r9 en0 en4 en5 en1 en12 en13 en14 en6 en7 en2 en15 en16 en3 en17 em1 em2 em4 em5 em6
    clear hcell hla ha v5 hb hN hS
    have HK : Hid (∀ x, Below w5.heap.size w5 x → ((fun w' => w'.cell? ⟨gm, 1, none⟩ = some (.int .u64 m1) ∧ w'.cell? ⟨gm, 2, none⟩ = some (.int .u64 m2) ∧ w'.cell? ⟨gm, 4, none⟩ = some (.int .u64 m4) ∧ w'.cell? ⟨gm, 5, none⟩ = some (.int .u64 m5) ∧ w'.cell? ⟨gm, 6, none⟩ = some (.int .u64 m6) ∧ Below w5.heap.size w5 w')) x) := Lib.hid fun x hx => ⟨(hx.cell (p := ⟨gm, 1, none⟩) hgm).trans HM1.out, (hx.cell (p := ⟨gm, 2, none⟩) hgm).trans HM2.out, (hx.cell (p := ⟨gm, 4, none⟩) hgm).trans HM4.out, (hx.cell (p := ⟨gm, 5, none⟩) hgm).trans HM5.out, (hx.cell (p := ⟨gm, 6, none⟩) hgm).trans HM6.out, hx⟩
    have HC0 : Hid (∀ x, Below w5.heap.size w5 x → Calls Tryd.prog 33 #[.slice (some ⟨q, 0, none⟩) 18 c, .int .i64 0] x fun e y => e = .returned (.int .u64 n0) ∧ Below w5.heap.size w5 y) := Lib.hid fun x hx =>
      (count18 0 (by omega) n0 (by omega) (by omega) q c _ (he.below hx) ((hx.cell (p := ⟨q, 0, none⟩) hq).trans HL0.out)).mono fun e y h => ⟨h.1, hx.trans (h.2.mono hx.size)⟩
    have HC4 : Hid (∀ x, Below w5.heap.size w5 x → Calls Tryd.prog 33 #[.slice (some ⟨q, 0, none⟩) 18 c, .int .i64 4] x fun e y => e = .returned (.int .u64 n4) ∧ Below w5.heap.size w5 y) := Lib.hid fun x hx =>
      (count18 4 (by omega) n4 (by omega) (by omega) q c _ (he.below hx) ((hx.cell (p := ⟨q, 4, none⟩) hq).trans HL4.out)).mono fun e y h => ⟨h.1, hx.trans (h.2.mono hx.size)⟩
    have HC5 : Hid (∀ x, Below w5.heap.size w5 x → Calls Tryd.prog 33 #[.slice (some ⟨q, 0, none⟩) 18 c, .int .i64 5] x fun e y => e = .returned (.int .u64 n5) ∧ Below w5.heap.size w5 y) := Lib.hid fun x hx =>
      (count18 5 (by omega) n5 (by omega) (by omega) q c _ (he.below hx) ((hx.cell (p := ⟨q, 5, none⟩) hq).trans HL5.out)).mono fun e y h => ⟨h.1, hx.trans (h.2.mono hx.size)⟩
    have HC1 : Hid (∀ x, Below w5.heap.size w5 x → Calls Tryd.prog 33 #[.slice (some ⟨q, 0, none⟩) 18 c, .int .i64 1] x fun e y => e = .returned (.int .u64 n1) ∧ Below w5.heap.size w5 y) := Lib.hid fun x hx =>
      (count18 1 (by omega) n1 (by omega) (by omega) q c _ (he.below hx) ((hx.cell (p := ⟨q, 1, none⟩) hq).trans HL1.out)).mono fun e y h => ⟨h.1, hx.trans (h.2.mono hx.size)⟩
    have HC12 : Hid (∀ x, Below w5.heap.size w5 x → Calls Tryd.prog 33 #[.slice (some ⟨q, 0, none⟩) 18 c, .int .i64 12] x fun e y => e = .returned (.int .u64 n12) ∧ Below w5.heap.size w5 y) := Lib.hid fun x hx =>
      (count18 12 (by omega) n12 (by omega) (by omega) q c _ (he.below hx) ((hx.cell (p := ⟨q, 12, none⟩) hq).trans HL12.out)).mono fun e y h => ⟨h.1, hx.trans (h.2.mono hx.size)⟩
    have HC13 : Hid (∀ x, Below w5.heap.size w5 x → Calls Tryd.prog 33 #[.slice (some ⟨q, 0, none⟩) 18 c, .int .i64 13] x fun e y => e = .returned (.int .u64 n13) ∧ Below w5.heap.size w5 y) := Lib.hid fun x hx =>
      (count18 13 (by omega) n13 (by omega) (by omega) q c _ (he.below hx) ((hx.cell (p := ⟨q, 13, none⟩) hq).trans HL13.out)).mono fun e y h => ⟨h.1, hx.trans (h.2.mono hx.size)⟩
    have HC14 : Hid (∀ x, Below w5.heap.size w5 x → Calls Tryd.prog 33 #[.slice (some ⟨q, 0, none⟩) 18 c, .int .i64 14] x fun e y => e = .returned (.int .u64 n14) ∧ Below w5.heap.size w5 y) := Lib.hid fun x hx =>
      (count18 14 (by omega) n14 (by omega) (by omega) q c _ (he.below hx) ((hx.cell (p := ⟨q, 14, none⟩) hq).trans HL14.out)).mono fun e y h => ⟨h.1, hx.trans (h.2.mono hx.size)⟩
    have HC6 : Hid (∀ x, Below w5.heap.size w5 x → Calls Tryd.prog 33 #[.slice (some ⟨q, 0, none⟩) 18 c, .int .i64 6] x fun e y => e = .returned (.int .u64 n6) ∧ Below w5.heap.size w5 y) := Lib.hid fun x hx =>
      (count18 6 (by omega) n6 (by omega) (by omega) q c _ (he.below hx) ((hx.cell (p := ⟨q, 6, none⟩) hq).trans HL6.out)).mono fun e y h => ⟨h.1, hx.trans (h.2.mono hx.size)⟩
    have HC7 : Hid (∀ x, Below w5.heap.size w5 x → Calls Tryd.prog 33 #[.slice (some ⟨q, 0, none⟩) 18 c, .int .i64 7] x fun e y => e = .returned (.int .u64 n7) ∧ Below w5.heap.size w5 y) := Lib.hid fun x hx =>
      (count18 7 (by omega) n7 (by omega) (by omega) q c _ (he.below hx) ((hx.cell (p := ⟨q, 7, none⟩) hq).trans HL7.out)).mono fun e y h => ⟨h.1, hx.trans (h.2.mono hx.size)⟩
    have HC2 : Hid (∀ x, Below w5.heap.size w5 x → Calls Tryd.prog 33 #[.slice (some ⟨q, 0, none⟩) 18 c, .int .i64 2] x fun e y => e = .returned (.int .u64 n2) ∧ Below w5.heap.size w5 y) := Lib.hid fun x hx =>
      (count18 2 (by omega) n2 (by omega) (by omega) q c _ (he.below hx) ((hx.cell (p := ⟨q, 2, none⟩) hq).trans HL2.out)).mono fun e y h => ⟨h.1, hx.trans (h.2.mono hx.size)⟩
    have HC15 : Hid (∀ x, Below w5.heap.size w5 x → Calls Tryd.prog 33 #[.slice (some ⟨q, 0, none⟩) 18 c, .int .i64 15] x fun e y => e = .returned (.int .u64 n15) ∧ Below w5.heap.size w5 y) := Lib.hid fun x hx =>
      (count18 15 (by omega) n15 (by omega) (by omega) q c _ (he.below hx) ((hx.cell (p := ⟨q, 15, none⟩) hq).trans HL15.out)).mono fun e y h => ⟨h.1, hx.trans (h.2.mono hx.size)⟩
    have HC16 : Hid (∀ x, Below w5.heap.size w5 x → Calls Tryd.prog 33 #[.slice (some ⟨q, 0, none⟩) 18 c, .int .i64 16] x fun e y => e = .returned (.int .u64 n16) ∧ Below w5.heap.size w5 y) := Lib.hid fun x hx =>
      (count18 16 (by omega) n16 (by omega) (by omega) q c _ (he.below hx) ((hx.cell (p := ⟨q, 16, none⟩) hq).trans HL16.out)).mono fun e y h => ⟨h.1, hx.trans (h.2.mono hx.size)⟩
    have HC3 : Hid (∀ x, Below w5.heap.size w5 x → Calls Tryd.prog 33 #[.slice (some ⟨q, 0, none⟩) 18 c, .int .i64 3] x fun e y => e = .returned (.int .u64 n3) ∧ Below w5.heap.size w5 y) := Lib.hid fun x hx =>
      (count18 3 (by omega) n3 (by omega) (by omega) q c _ (he.below hx) ((hx.cell (p := ⟨q, 3, none⟩) hq).trans HL3.out)).mono fun e y h => ⟨h.1, hx.trans (h.2.mono hx.size)⟩
    have HC17 : Hid (∀ x, Below w5.heap.size w5 x → Calls Tryd.prog 33 #[.slice (some ⟨q, 0, none⟩) 18 c, .int .i64 17] x fun e y => e = .returned (.int .u64 n17) ∧ Below w5.heap.size w5 y) := Lib.hid fun x hx =>
      (count18 17 (by omega) n17 (by omega) (by omega) q c _ (he.below hx) ((hx.cell (p := ⟨q, 17, none⟩) hq).trans HL17.out)).mono fun e y h => ⟨h.1, hx.trans (h.2.mono hx.size)⟩
    have hlen : (linesL N 18).length = 18 := linesL_len N 18
    rw [hlen]
    clear hlen
    go_wp2_with fail
    refine sums_region gm q c n0 n1 n2 n3 n4 n5 n6 n7 n12 n13 n14 n15 n16 n17 m1 m2 m4 m5 m6 w5 _ _ _ _ _ _ _ _ _ _ _ _ _ _ _ _ _ _ _ _ _ _ _ _ _ _ _ _ _ _ _ _ _ _ _ _ _ _ _ _ _ _ _ _ _ _ _ _ _ _ _ _ _ _ _ _ _ _ _ _ _ _ _ _ _ _ _ _ _ _ _ _ _ _ _ _ _ _ _ _ _ _ _ _ _ _ _ _ _ _ _ _ _ _ _ _ _ _ _ _ _ _ _ _ _ _ _ _ _ _ _ _ _ _ _ _ _ _ _ _ _ _ _ _ _ _ _ _ _ _ _ _ _ _ _ _ _ _ _ _ _ _ _ _ _ _ _ _ _ _ _ _ _ _ _ _ _ _ _ _ _ _ HK.out HC0.out HC4.out HC5.out HC1.out HC12.out HC13.out HC14.out HC6.out HC7.out HC2.out HC15.out HC16.out HC3.out HC17.out z1 z2 z3 z4 z5 t1 t2 t3 t6 t8 t9 r4 r5 r7 ?_
    intro T y hT hy
    go_wp2_with fail
    refine bodyPost_ret (results_tmp rfl _ _ _) rfl ⟨?_, hu5.to_below.trans (hy.mono hu5.size)⟩
    show Ending.returned (T.getD 4 undef) = _
    rw [Array.getD_eq_getD_getElem?, hT]; rfl
end Go.Proofs.YtjfkfnlnjklcdaaDoor
