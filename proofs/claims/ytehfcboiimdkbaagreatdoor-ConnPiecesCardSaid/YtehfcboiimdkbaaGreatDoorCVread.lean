/- read: a line is read; a fault is recovered from. -/
import Derived.Test.YtehfcboiimdkbaaGreatDoorCVplain
import Derived.Test.YtehfcboiimdkbaaGreatDoorCVstore
import Derived.Test.YtehfcboiimdkbaaGreatDoorBM
namespace Go.Proofs.YtehfcboiimdkbaaGreatDoor
set_option linter.unusedSimpArgs false
set_option linter.unusedVariables false
set_option linter.unusedSimpArgs false
set_option linter.unusedVariables false
set_option maxHeartbeats 8000000
open Go.RowKit
set_option maxRecDepth 100000
theorem rec_norm (g1 g2 : Nat) (w : World) : CallsD Tryz.prog 53 #[.pointer (some ⟨g1, 0, none⟩), .pointer (some ⟨g2, 0, none⟩)] .returning w fun e u' w' => e = .returned (.tuple #[]) ∧ u' = .returning ∧ Below w.heap.size w w' := by
  refine callsD_Run (nt := 13) Tryz.func53 rfl kp53 (S := Non) (ρ := fun _ => reOfV 0) (en := []) [.c (.v (.pointer (some ⟨g1, 0, none⟩))), .c (.v (.pointer (some ⟨g2, 0, none⟩)))] Tryz.ntmps53 (At.nil _ _ _) (by simp [SV.wf, SC.wf]) (by simp) (by decide) (.v .nilIface) rfl trivial ?_
  intro C hC hP hk
  have hctr := noC_ok hP
  (refine VT_ok hctr (rs := res53) true 200 _ _ _ ?_; simp (maxSteps := 1000000) only [VT, jf, jg, jZ, ja, jd, je, VC, qA, qB, qC, qD, qE, qF, qG, qH, qI, qJ, qK, qL, qM, qN, qO, qP, qQ, qR, qS, qT, qU, qV, qW, qX, qY, qZ, qe, qf, qg, qh, qj, qk, ql, qm, qn, qo, qp, qq, q0t, qu, qv, ev, qw, qy, qz, zA, zB, zC, zD, zE, zF, zG, zH, zI, zJ, TE.sv, zK, zL, zM, ↓reduceIte, reduceCtorEq, Value.oneCell', Nat.reduceEqDiff, Nat.reduceAdd, Nat.reduceLT, Nat.reduceBEq, Nat.reduceSub, Nat.reduceLeDiff, zP, zQ, zR, zS, zT, zU, zV, zW, zX, zY, zZ, za, zb, zc, zd, ze, zf, zg, zh, zi, zj, zk, zl, zm, zn, zo, zp, zq, zr, zt, zu, zw, zx, zy, zz, cE, jA, jB, hap, killE, deadOf, rwE, cD, cO, jC, jD, jE, jF, jG, jH, jI, jJ, jK, jL, jM, jN, jO, jP, jQ, jR, jS, jT, jU, jV, jW, jX, jY, hP, hk, res53, kp53, noC])
  refine Run_isnil (b := true) rfl (.inr ⟨_, by rw [hP]; exact Tryz.underlying20⟩) (by rw [hP]; kernel_rfl) (.inl ⟨rfl, rfl⟩) (by decide) ?_
  (refine VT_ok hctr (rs := res53) true 200 _ _ _ ?_; simp (maxSteps := 1000000) only [VT, jf, jg, jZ, ja, jd, je, VC, qA, qB, qC, qD, qE, qF, qG, qH, qI, qJ, qK, qL, qM, qN, qO, qP, qQ, qR, qS, qT, qU, qV, qW, qX, qY, qZ, qe, qf, qg, qh, qj, qk, ql, qm, qn, qo, qp, qq, q0t, qu, qv, ev, qw, qy, qz, zA, zB, zC, zD, zE, zF, zG, zH, zI, zJ, TE.sv, zK, zL, zM, ↓reduceIte, reduceCtorEq, Value.oneCell', Nat.reduceEqDiff, Nat.reduceAdd, Nat.reduceLT, Nat.reduceBEq, Nat.reduceSub, Nat.reduceLeDiff, zP, zQ, zR, zS, zT, zU, zV, zW, zX, zY, zZ, za, zb, zc, zd, ze, zf, zg, zh, zi, zj, zk, zl, zm, zn, zo, zp, zq, zr, zt, zu, zw, zx, zy, zz, cE, jA, jB, hap, killE, deadOf, rwE, cD, cO, jC, jD, jE, jF, jG, jH, jI, jJ, jK, jL, jM, jN, jO, jP, jQ, jR, jS, jT, jU, jV, jW, jX, jY, hP, hk, res53, kp53, noC])
  refine Run_end hC hres53 fun ρ w' hw hn => ⟨rfl, rfl, ?_⟩
  rw [hC] at hw
  exact hw.up.to_below
def reqL (cv : SC) (r : Rq) (b : Bool) (g1 g2 : Nat) : List (Nat × TypeId × List SC × Bool) := [(g1, 30, rqS cv r, true), (g2, 4, [.b b], true)]
theorem req_at {w : World} {g1 g2 : Nat} {cv : Value} {r : Rq} {b : Bool} (h1 : Blk w g1 30 (dens (fun _ => reOfV 0) (rqS (.v cv) r)).toArray) (h2 : Blk w g2 4 #[.bool b]) (hne : g1 ≠ g2) : At (Two g1 g2) (roL (reqL (.v cv) r b g1 g2)) (enL (reqL (.v cv) r b g1 g2)) w := by
  refine at_list ?_ ?_
  · intro x hx
    simp only [reqL, List.mem_cons, List.not_mem_nil, or_false] at hx
    rcases hx with rfl | rfl
    · refine ⟨h1, by show ¬ (30 : Nat) = DEAD; decide, ?_, fun _ => .inl rfl⟩
      intro y hy
      simp only [rqS, List.mem_cons, List.not_mem_nil, or_false] at hy
      rcases hy with rfl | rfl | rfl | rfl | rfl | rfl | rfl | rfl | rfl | rfl | rfl <;> trivial
    · refine ⟨h2, by show ¬ (4 : Nat) = DEAD; decide, ?_, fun _ => .inr rfl⟩
      intro y hy
      simp only [List.mem_cons, List.not_mem_nil, or_false] at hy
      subst hy; trivial
  · intro i j x y hi hj he
    match i, j, hi, hj with
    | 0, 0, _, _ => rfl
    | 1, 1, _, _ => rfl
    | 0, 1, hi, hj => simp [reqL] at hi hj; subst hi; subst hj; exact absurd he hne
    | 1, 0, hi, hj => simp [reqL] at hi hj; subst hi; subst hj; exact absurd he.symm hne
    | i + 2, _, hi, _ => simp [reqL] at hi
    | 0, j + 2, _, hj => simp [reqL] at hj
    | 1, j + 2, _, hj => simp [reqL] at hj
theorem rec_fault {g1 g2 : Nat} {w : World} {cv : Value} {r : Rq} {b : Bool} (f : List UInt8) (h1 : Blk w g1 30 (dens (fun _ => reOfV 0) (rqS (.v cv) r)).toArray) (h2 : Blk w g2 4 #[.bool b]) (hne : g1 ≠ g2) :
    CallsD Tryz.prog 53 #[.pointer (some ⟨g1, 0, none⟩), .pointer (some ⟨g2, 0, none⟩)] (.panicking (faultE f)) w fun e u' w' => e = .returned (.tuple #[]) ∧ u' = .panicking [{ v := faultV f, recovered := true }] ∧ Upd (Two g1 g2) w w' ∧
      Blk w' g1 30 (dens (fun _ => reOfV 0) (rqS (.v (.slice none 0 0)) (badR f))).toArray ∧ Blk w' g2 4 #[.bool false] := by
  refine callsD_Run (nt := 13) Tryz.func53 rfl kp53 (S := Two g1 g2) (ρ := roL (reqL (.v cv) r b g1 g2)) (en := enL (reqL (.v cv) r b g1 g2)) [.c (.p 0 0), .c (.p 1 0)] Tryz.ntmps53 (req_at h1 h2 hne) (by simp [SV.wf, SC.wf, enL, reqL]) (by simp) (by decide) (.v (faultV f)) rfl trivial ?_
  intro C hC hP hk
  have hctr := tC1_ok' hP
  have hm : (recM (.panicking (faultE f))).2 = .panicking [{ v := faultV f, recovered := true }] := rfl
  rw [hm] at hC
  (refine VT_ok hctr (rs := res53) true 200 _ _ _ ?_; simp (maxSteps := 1000000) only [VT, jf, jg, jZ, ja, jd, je, VC, qA, qB, qC, qD, qE, qF, qG, qH, qI, qJ, qK, qL, qM, qN, qO, qP, qQ, qR, qS, qT, qU, qV, qW, qX, qY, qZ, qe, qf, qg, qh, qj, qk, ql, qm, qn, qo, qp, qq, q0t, qu, qv, ev, qw, qy, qz, zA, zB, zC, zD, zE, zF, zG, zH, zI, zJ, TE.sv, zK, zL, zM, ↓reduceIte, reduceCtorEq, Value.oneCell', Nat.reduceEqDiff, Nat.reduceAdd, Nat.reduceLT, Nat.reduceBEq, Nat.reduceSub, Nat.reduceLeDiff, zP, zQ, zR, zS, zT, zU, zV, zW, zX, zY, zZ, za, zb, zc, zd, ze, zf, zg, zh, zi, zj, zk, zl, zm, zn, zo, zp, zq, zr, zt, zu, zw, zx, zy, zz, cE, jA, jB, hap, killE, deadOf, rwE, cD, cO, jC, jD, jE, jF, jG, jH, jI, jJ, jK, jL, jM, jN, jO, jP, jQ, jR, jS, jT, jU, jV, jW, jX, jY, hP, hk, res53, kp53, tCB, rowBad, enL, reqL, rqS, List.map_cons, List.map_nil])
  refine Run_isnil (b := false) rfl (.inr ⟨_, by rw [hP]; exact Tryz.underlying20⟩) (by rw [hP]; kernel_rfl) (.inr ⟨rfl, _, _, rfl⟩) (by decide) ?_
  (refine VT_ok hctr (rs := res53) true 200 _ _ _ ?_; simp (maxSteps := 1000000) only [VT, jf, jg, jZ, ja, jd, je, VC, qA, qB, qC, qD, qE, qF, qG, qH, qI, qJ, qK, qL, qM, qN, qO, qP, qQ, qR, qS, qT, qU, qV, qW, qX, qY, qZ, qe, qf, qg, qh, qj, qk, ql, qm, qn, qo, qp, qq, q0t, qu, qv, ev, qw, qy, qz, zA, zB, zC, zD, zE, zF, zG, zH, zI, zJ, TE.sv, zK, zL, zM, ↓reduceIte, reduceCtorEq, Value.oneCell', Nat.reduceEqDiff, Nat.reduceAdd, Nat.reduceLT, Nat.reduceBEq, Nat.reduceSub, Nat.reduceLeDiff, zP, zQ, zR, zS, zT, zU, zV, zW, zX, zY, zZ, za, zb, zc, zd, ze, zf, zg, zh, zi, zj, zk, zl, zm, zn, zo, zp, zq, zr, zt, zu, zw, zx, zy, zz, cE, jA, jB, hap, killE, deadOf, rwE, cD, cO, jC, jD, jE, jF, jG, jH, jI, jJ, jK, jL, jM, jN, jO, jP, jQ, jR, jS, jT, jU, jV, jW, jX, jY, hP, hk, res53, kp53, tCB, rowBad, enL, reqL, rqS, List.map_cons, List.map_nil])
  refine Run_assert (D := .string) rfl (by rw [hP]; exact Tryz.underlying94) (fun m h => by cases h) rfl (by decide) ?_
  (refine VT_ok hctr (rs := res53) true 200 _ _ _ ?_; simp (maxSteps := 1000000) only [VT, jf, jg, jZ, ja, jd, je, VC, qA, qB, qC, qD, qE, qF, qG, qH, qI, qJ, qK, qL, qM, qN, qO, qP, qQ, qR, qS, qT, qU, qV, qW, qX, qY, qZ, qe, qf, qg, qh, qj, qk, ql, qm, qn, qo, qp, qq, q0t, qu, qv, ev, qw, qy, qz, zA, zB, zC, zD, zE, zF, zG, zH, zI, zJ, TE.sv, zK, zL, zM, ↓reduceIte, reduceCtorEq, Value.oneCell', Nat.reduceEqDiff, Nat.reduceAdd, Nat.reduceLT, Nat.reduceBEq, Nat.reduceSub, Nat.reduceLeDiff, zP, zQ, zR, zS, zT, zU, zV, zW, zX, zY, zZ, za, zb, zc, zd, ze, zf, zg, zh, zi, zj, zk, zl, zm, zn, zo, zp, zq, zr, zt, zu, zw, zx, zy, zz, cE, jA, jB, hap, killE, deadOf, rwE, cD, cO, jC, jD, jE, jF, jG, jH, jI, jJ, jK, jL, jM, jN, jO, jP, jQ, jR, jS, jT, jU, jV, jW, jX, jY, hP, hk, res53, kp53, tCB, rowBad, enL, reqL, rqS, noCmds, badR, List.map_cons, List.map_nil])
  refine Run_end hC hres53 fun ρ w' hw hn => ?_
  have i0 := hw.ini 0 (by rw [hC]; exact Nat.zero_lt_two)
  have i1 := hw.ini 1 (by rw [hC]; exact Nat.one_lt_two)
  have e0 : C.ρ0 0 = reOfV g1 := by rw [hC]; rfl
  have e1 : C.ρ0 1 = reOfV g2 := by rw [hC]; rfl
  rw [e0] at i0; rw [e1] at i1
  obtain ⟨k1, _⟩ := ent_blkV (c := 0) hw.hp hw.ho (by simp) rfl (by decide) (by simp)
  obtain ⟨k2, _⟩ := ent_blkV (c := 1) hw.hp hw.ho (by simp) rfl (by decide) (by simp)
  rw [i0] at k1; rw [i1] at k2
  have hup := hw.up
  rw [hC] at hup
  exact ⟨rfl, rfl, hup, k1, k2⟩
end Go.Proofs.YtehfcboiimdkbaaGreatDoor
