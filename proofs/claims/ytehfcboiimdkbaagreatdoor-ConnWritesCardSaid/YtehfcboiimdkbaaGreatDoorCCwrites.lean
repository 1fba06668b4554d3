/- ConnWrites, walked. Printed by gen_cwrites.py. -/
import Derived.Test.YtehfcboiimdkbaaGreatDoorCClaw
import Derived.Test.YtehfcboiimdkbaaGreatDoorCCarg
import Derived.Test.YtehfcboiimdkbaaGreatDoorBM
namespace Go.Proofs.YtehfcboiimdkbaaGreatDoor
set_option linter.unusedSimpArgs false
set_option linter.unusedVariables false
set_option linter.unusedSimpArgs false
set_option linter.unusedVariables false
set_option maxHeartbeats 8000000
open Go.RowKit
set_option maxRecDepth 100000
def cR (R : List UInt8) : Cn := ⟨[], R, 0, false⟩
def slW (a : Option Addr) (n c : Nat) (a2 : Option Addr) (n2 c2 : Nat) (i : Nat) (O R : List UInt8) : List (Nat × SV) := [(9, .c (.i .i64 (i : Int))), (8, .c (.s O)), (7, .c (.s (O ++ R))), (6, .c (.p 0 0)), (0, .c (.v (.slice a n c))), (1, .c (.v (.slice a2 n2 c2)))]
def slW2 (a : Option Addr) (n c : Nat) (a2 : Option Addr) (n2 c2 : Nat) (i : Nat) (O R s : List UInt8) : List (Nat × SV) := [(10, .c (.s s)), (9, .c (.i .i64 (i : Int))), (8, .c (.s O)), (7, .c (.s (O ++ R))), (6, .c (.p 0 0)), (0, .c (.v (.slice a n c))), (1, .c (.v (.slice a2 n2 c2)))]
theorem writes_walk {w : World} {a a2 : Option Addr} {n c n2 c2 : Nat} {ws : List (List UInt8)} (hraw : RawT w a ws) (hn : ws.length = n) (hnm : n ≤ 9223372036854775807) (hraw2 : RawI w a2 n2) (hnm2 : n2 ≤ 9223372036854775807) (hE0 : EnvT w) :
    Calls Tryz.prog 6 #[.slice a n c, .slice a2 n2 c2] w fun e w' => e = .returned (.bool true) ∧ Below w.heap.size w w' := by
  refine calls_of_Run Tryz.func6 rfl kp6 (S := Non) (ρ := fun _ => reOf 0) (en := []) [.c (.v (.slice a n c)), .c (.v (.slice a2 n2 c2))] Tryz.ntmps6 (At.nil _ _ _) (by simp [SV.wf, SC.wf]) (by simp) ?_
  intro C hC hP hk
  have hE : ∀ w', Upd C.S C.w0 w' → EnvT w' := fun w' hu => by rw [hC] at hu; exact hE0.below hu.to_below
  have hctr := clC_ok hP hE
  have hn0 : C.n0 = 0 := by rw [hC]; rfl
  have fin : ∀ en, Fin C res6 (.c (.b true)) en := fun en => Fin_ro (v := .c (.b true)) hC hres6 rfl trivial
  (refine VT_ok hctr (rs := res6) true 300 _ _ _ ?_; simp (maxSteps := 1000000) only [VT, jf, jg, jZ, ja, jd, je, VC, qA, qB, qC, qD, qE, qF, qG, qH, qI, qJ, qK, qL, qM, qN, qO, qP, qQ, qR, qS, qT, qU, qV, qW, qX, qY, qZ, qe, qf, qg, qh, qj, qk, ql, qm, qn, qo, qp, qq, q0t, qu, qv, ev, qw, qy, qz, zA, zB, zC, zD, zE, zF, zG, zH, zI, zJ, TE.sv, zK, zL, zM, ↓reduceIte, reduceCtorEq, Value.oneCell', Nat.reduceEqDiff, Nat.reduceAdd, Nat.reduceLT, Nat.reduceBEq, Nat.reduceSub, Nat.reduceLeDiff, zP, zQ, zR, zS, zT, zU, zV, zW, zX, zY, zZ, za, zb, zc, zd, ze, zf, zg, zh, zi, zj, zk, zl, zm, zn, zo, zp, zq, zr, zt, zu, zw, zx, zy, zz, cE, jA, jB, hap, killE, deadOf, rwE, cD, cO, jC, jD, jE, jF, jG, jH, jI, jJ, jK, jL, jM, jN, jO, jP, jQ, jR, jS, jT, jU, jV, jW, jX, jY, hP, hk, res6, kp6, clC, Int.toNat_natCast, Nat.mul_one, Int.le_refl, beq_self_eq_true, bne_self_eq_false, Bool.not_false, Bool.not_true])
  refine Run_new hP (by rw [hn0]; exact Nat.zero_le _) rfl (by simp) ?_
  (refine VT_ok hctr (rs := res6) true 300 _ _ _ ?_; simp (maxSteps := 1000000) only [VT, jf, jg, jZ, ja, jd, je, VC, qA, qB, qC, qD, qE, qF, qG, qH, qI, qJ, qK, qL, qM, qN, qO, qP, qQ, qR, qS, qT, qU, qV, qW, qX, qY, qZ, qe, qf, qg, qh, qj, qk, ql, qm, qn, qo, qp, qq, q0t, qu, qv, ev, qw, qy, qz, zA, zB, zC, zD, zE, zF, zG, zH, zI, zJ, TE.sv, zK, zL, zM, ↓reduceIte, reduceCtorEq, Value.oneCell', Nat.reduceEqDiff, Nat.reduceAdd, Nat.reduceLT, Nat.reduceBEq, Nat.reduceSub, Nat.reduceLeDiff, zP, zQ, zR, zS, zT, zU, zV, zW, zX, zY, zZ, za, zb, zc, zd, ze, zf, zg, zh, zi, zj, zk, zl, zm, zn, zo, zp, zq, zr, zt, zu, zw, zx, zy, zz, cE, jA, jB, hap, killE, deadOf, rwE, cD, cO, jC, jD, jE, jF, jG, jH, jI, jJ, jK, jL, jM, jN, jO, jP, jQ, jR, jS, jT, jU, jV, jW, jX, jY, hP, hk, res6, kp6, clC, Int.toNat_natCast, Nat.mul_one, Int.le_refl, beq_self_eq_true, bne_self_eq_false, Bool.not_false, Bool.not_true])
  refine ⟨ptr_und, ?_⟩
  refine Run_loopE (ι := { y : Nat × List UInt8 × List UInt8 // y.1 ≤ 60 ∧ y.1 ≤ n ∧ y.2.1.length + y.2.2.length ≤ 3000 * y.1 }) (κ := { y : Nat × List UInt8 × List UInt8 // y.2.1.length + y.2.2.length ≤ 180000 }) 0 (fun y => slW a n c a2 n2 c2 y.1.1 y.1.2.1 y.1.2.2) (fun y => [cnE (cR y.1.2.2) true]) (fun y => 61 - y.1.1) ⟨(0, [], []), by omega, by omega, by simp⟩ (sub_mk ⟨rfl, rfl, rfl, rfl, rfl, rfl, trivial⟩) rfl
    (fun y => slW a n c a2 n2 c2 y.1.1 y.1.2.1 y.1.2.2) (fun y => [cnE (cR y.1.2.2) true]) rfl ?_ ?_
  · rintro ⟨⟨i, O, R⟩, hlen⟩
    simp only at hlen
    show Run C _ 87 (slW a n c a2 n2 c2 i O R) [cnE (cR R) true]
    (refine VT_ok hctr (rs := res6) true 300 _ _ _ ?_; simp (maxSteps := 1000000) only [VT, jf, jg, jZ, ja, jd, je, VC, qA, qB, qC, qD, qE, qF, qG, qH, qI, qJ, qK, qL, qM, qN, qO, qP, qQ, qR, qS, qT, qU, qV, qW, qX, qY, qZ, qe, qf, qg, qh, qj, qk, ql, qm, qn, qo, qp, qq, q0t, qu, qv, ev, qw, qy, qz, zA, zB, zC, zD, zE, zF, zG, zH, zI, zJ, TE.sv, zK, zL, zM, ↓reduceIte, reduceCtorEq, Value.oneCell', Nat.reduceEqDiff, Nat.reduceAdd, Nat.reduceLT, Nat.reduceBEq, Nat.reduceSub, Nat.reduceLeDiff, zP, zQ, zR, zS, zT, zU, zV, zW, zX, zY, zZ, za, zb, zc, zd, ze, zf, zg, zh, zi, zj, zk, zl, zm, zn, zo, zp, zq, zr, zt, zu, zw, zx, zy, zz, cE, jA, jB, hap, killE, deadOf, rwE, cD, cO, jC, jD, jE, jF, jG, jH, jI, jJ, jK, jL, jM, jN, jO, jP, jQ, jR, jS, jT, jU, jV, jW, jX, jY, hP, hk, res6, kp6, clC, Int.toNat_natCast, Nat.mul_one, Int.le_refl, beq_self_eq_true, bne_self_eq_false, Bool.not_false, Bool.not_true, slW])
    refine Run_cn (N := 0) (c := (cR R)) (cR R) (ys := []) (.t [.c (.i .i64 0), .c (.i .i64 (R.length : Int))]) rfl hP rfl (by simp [zG]) (fun args w => Tryz.call18 args w) (fun pr => by simp [SV.wf, SC.wf, TE.wf]) (fun ρ w g h => by have := sizes_w h; exact this) rfl (by simp) ?_
    have e1 : (O ++ R).length = O.length + R.length := List.length_append
    have e2 : IntKind.i64.wrap (((O.length + R.length : Nat) : Int) - (O.length : Int)) = (R.length : Int) := by rw [IntWalk.i64_in _ (by omega)]; omega
    (refine VT_ok hctr (rs := res6) true 300 _ _ _ ?_; simp (maxSteps := 1000000) only [VT, jf, jg, jZ, ja, jd, je, VC, qA, qB, qC, qD, qE, qF, qG, qH, qI, qJ, qK, qL, qM, qN, qO, qP, qQ, qR, qS, qT, qU, qV, qW, qX, qY, qZ, qe, qf, qg, qh, qj, qk, ql, qm, qn, qo, qp, qq, q0t, qu, qv, ev, qw, qy, qz, zA, zB, zC, zD, zE, zF, zG, zH, zI, zJ, TE.sv, zK, zL, zM, ↓reduceIte, reduceCtorEq, Value.oneCell', Nat.reduceEqDiff, Nat.reduceAdd, Nat.reduceLT, Nat.reduceBEq, Nat.reduceSub, Nat.reduceLeDiff, zP, zQ, zR, zS, zT, zU, zV, zW, zX, zY, zZ, za, zb, zc, zd, ze, zf, zg, zh, zi, zj, zk, zl, zm, zn, zo, zp, zq, zr, zt, zu, zw, zx, zy, zz, cE, jA, jB, hap, killE, deadOf, rwE, cD, cO, jC, jD, jE, jF, jG, jH, jI, jJ, jK, jL, jM, jN, jO, jP, jQ, jR, jS, jT, jU, jV, jW, jX, jY, hP, hk, res6, kp6, clC, Int.toNat_natCast, Nat.mul_one, Int.le_refl, beq_self_eq_true, bne_self_eq_false, Bool.not_false, Bool.not_true, e1, e2])
    have hwr : cnWrite (cR R) (R.length : Int) = (cR [], R) := by
      unfold cnWrite cnHow cR
      simp only [Int.toNat_natCast, Nat.min_self, List.drop_length, List.take_length]
    refine Run_cn (N := 0) (c := (cR R)) (cR []) (ys := [.c (.i .i64 (R.length : Int))]) (.c (.s R)) rfl hP rfl (by simp [zG]) (fun args w => Tryz.call15 args w) (fun pr => by simp [SV.wf, SC.wf, TE.wf]) (fun ρ w g h => by have := write_w (c := cR R) (R.length : Int) (by show R.length ≤ _; omega) h; rw [hwr] at this; exact this) rfl (by simp) ?_
    (refine VT_ok hctr (rs := res6) true 300 _ _ _ ?_; simp (maxSteps := 1000000) only [VT, jf, jg, jZ, ja, jd, je, VC, qA, qB, qC, qD, qE, qF, qG, qH, qI, qJ, qK, qL, qM, qN, qO, qP, qQ, qR, qS, qT, qU, qV, qW, qX, qY, qZ, qe, qf, qg, qh, qj, qk, ql, qm, qn, qo, qp, qq, q0t, qu, qv, ev, qw, qy, qz, zA, zB, zC, zD, zE, zF, zG, zH, zI, zJ, TE.sv, zK, zL, zM, ↓reduceIte, reduceCtorEq, Value.oneCell', Nat.reduceEqDiff, Nat.reduceAdd, Nat.reduceLT, Nat.reduceBEq, Nat.reduceSub, Nat.reduceLeDiff, zP, zQ, zR, zS, zT, zU, zV, zW, zX, zY, zZ, za, zb, zc, zd, ze, zf, zg, zh, zi, zj, zk, zl, zm, zn, zo, zp, zq, zr, zt, zu, zw, zx, zy, zz, cE, jA, jB, hap, killE, deadOf, rwE, cD, cO, jC, jD, jE, jF, jG, jH, jI, jJ, jK, jL, jM, jN, jO, jP, jQ, jR, jS, jT, jU, jV, jW, jX, jY, hP, hk, res6, kp6, clC, Int.toNat_natCast, Nat.mul_one, Int.le_refl, beq_self_eq_true, bne_self_eq_false, Bool.not_false, Bool.not_true])
    exact ⟨by omega, fin _⟩
  · rintro ⟨⟨i, O, R⟩, hi, hin, hlen⟩ D dP dS dw dn dr dk ddf dPan dRet hX hX2 hJ
    have hP0 := hP; have hk0 := hk; have hctr0 := hctr
    have hP : D.P = Tryz.prog := by rw [dP]; exact hP0
    have hk : D.kp = kp6 := by rw [dk]; exact hk0
    have hED : ∀ w', Upd D.S D.w0 w' → EnvT w' := by rw [dS, dw]; exact hE
    have hctr : CtrOk D clC := clC_ok hP hED
    have hS : D.S = Non := by rw [dS, hC]; rfl
    have hw0 : D.w0 = w := by rw [dw, hC]; rfl
    simp only at hi hin hlen
    show Run D _ _ (slW a n c a2 n2 c2 i O R) [cnE (cR R) true]
    by_cases hin2 : i < n
    rotate_left
    · have c1 : decide ((i : Int) < (n : Int)) = false := decide_eq_false (by omega)
      (refine VT_ok hctr (rs := res6) true 300 _ _ _ ?_; simp (maxSteps := 1000000) only [VT, jf, jg, jZ, ja, jd, je, VC, qA, qB, qC, qD, qE, qF, qG, qH, qI, qJ, qK, qL, qM, qN, qO, qP, qQ, qR, qS, qT, qU, qV, qW, qX, qY, qZ, qe, qf, qg, qh, qj, qk, ql, qm, qn, qo, qp, qq, q0t, qu, qv, ev, qw, qy, qz, zA, zB, zC, zD, zE, zF, zG, zH, zI, zJ, TE.sv, zK, zL, zM, ↓reduceIte, reduceCtorEq, Value.oneCell', Nat.reduceEqDiff, Nat.reduceAdd, Nat.reduceLT, Nat.reduceBEq, Nat.reduceSub, Nat.reduceLeDiff, zP, zQ, zR, zS, zT, zU, zV, zW, zX, zY, zZ, za, zb, zc, zd, ze, zf, zg, zh, zi, zj, zk, zl, zm, zn, zo, zp, zq, zr, zt, zu, zw, zx, zy, zz, cE, jA, jB, hap, killE, deadOf, rwE, cD, cO, jC, jD, jE, jF, jG, jH, jI, jJ, jK, jL, jM, jN, jO, jP, jQ, jR, jS, jT, jU, jV, jW, jX, jY, hP, hk, res6, kp6, clC, Int.toNat_natCast, Nat.mul_one, Int.le_refl, beq_self_eq_true, bne_self_eq_false, Bool.not_false, Bool.not_true, slW, c1])
      exact hX ⟨(i, O, R), by simp only; omega⟩ _ _ rfl (sub_mk ⟨rfl, rfl, rfl, rfl, rfl, rfl, trivial⟩)
    have c1 : decide ((i : Int) < (n : Int)) = true := decide_eq_true (by omega)
    by_cases hi2 : i < 60
    rotate_left
    · have c2' : decide ((i : Int) < 60) = false := decide_eq_false (by omega)
      (refine VT_ok hctr (rs := res6) true 300 _ _ _ ?_; simp (maxSteps := 1000000) only [VT, jf, jg, jZ, ja, jd, je, VC, qA, qB, qC, qD, qE, qF, qG, qH, qI, qJ, qK, qL, qM, qN, qO, qP, qQ, qR, qS, qT, qU, qV, qW, qX, qY, qZ, qe, qf, qg, qh, qj, qk, ql, qm, qn, qo, qp, qq, q0t, qu, qv, ev, qw, qy, qz, zA, zB, zC, zD, zE, zF, zG, zH, zI, zJ, TE.sv, zK, zL, zM, ↓reduceIte, reduceCtorEq, Value.oneCell', Nat.reduceEqDiff, Nat.reduceAdd, Nat.reduceLT, Nat.reduceBEq, Nat.reduceSub, Nat.reduceLeDiff, zP, zQ, zR, zS, zT, zU, zV, zW, zX, zY, zZ, za, zb, zc, zd, ze, zf, zg, zh, zi, zj, zk, zl, zm, zn, zo, zp, zq, zr, zt, zu, zw, zx, zy, zz, cE, jA, jB, hap, killE, deadOf, rwE, cD, cO, jC, jD, jE, jF, jG, jH, jI, jJ, jK, jL, jM, jN, jO, jP, jQ, jR, jS, jT, jU, jV, jW, jX, jY, hP, hk, res6, kp6, clC, Int.toNat_natCast, Nat.mul_one, Int.le_refl, beq_self_eq_true, bne_self_eq_false, Bool.not_false, Bool.not_true, slW, c1, c2'])
      exact hX ⟨(i, O, R), by simp only; omega⟩ _ _ rfl (sub_mk ⟨rfl, rfl, rfl, rfl, rfl, rfl, trivial⟩)
    have c2' : decide ((i : Int) < 60) = true := decide_eq_true (by omega)
    obtain ⟨x, hx⟩ : ∃ x, ws[i]? = some x := ⟨_, List.getElem?_eq_getElem (by omega)⟩
    obtain ⟨b, ofs, ha, r1⟩ := hraw.rd (D := D) hS hw0 hx
    subst ha
    have p0 : (0 : Int) ≤ (i : Int) := by omega
    have p1 : (i : Int) < (n : Int) := by omega
    have p3 : IntKind.i64.wrap ((i : Int) + 1) = ((i + 1 : Nat) : Int) := by rw [IntWalk.i64_in _ (by omega)]; rfl
    (refine VT_ok hctr (rs := res6) true 31 _ _ _ ?_; simp (maxSteps := 1000000) only [VT, jf, jg, jZ, ja, jd, je, VC, qA, qB, qC, qD, qE, qF, qG, qH, qI, qJ, qK, qL, qM, qN, qO, qP, qQ, qR, qS, qT, qU, qV, qW, qX, qY, qZ, qe, qf, qg, qh, qj, qk, ql, qm, qn, qo, qp, qq, q0t, qu, qv, ev, qw, qy, qz, zA, zB, zC, zD, zE, zF, zG, zH, zI, zJ, TE.sv, zK, zL, zM, ↓reduceIte, reduceCtorEq, Value.oneCell', Nat.reduceEqDiff, Nat.reduceAdd, Nat.reduceLT, Nat.reduceBEq, Nat.reduceSub, Nat.reduceLeDiff, zP, zQ, zR, zS, zT, zU, zV, zW, zX, zY, zZ, za, zb, zc, zd, ze, zf, zg, zh, zi, zj, zk, zl, zm, zn, zo, zp, zq, zr, zt, zu, zw, zx, zy, zz, cE, jA, jB, hap, killE, deadOf, rwE, cD, cO, jC, jD, jE, jF, jG, jH, jI, jJ, jK, jL, jM, jN, jO, jP, jQ, jR, jS, jT, jU, jV, jW, jX, jY, hP, hk, res6, kp6, clC, Int.toNat_natCast, Nat.mul_one, Int.le_refl, beq_self_eq_true, bne_self_eq_false, Bool.not_false, Bool.not_true, slW, c1, c2', r1, p0, p1])
    refine Run_join (κ := { s : List UInt8 // s.length ≤ 3000 }) (fun s => slW2 (some ⟨b, ofs, none⟩) n c a2 n2 c2 i O R s.1) (fun _ => [cnE (cR R) true]) ?_ ?_
    rotate_left
    · intro htail
      by_cases h3 : 3000 < x.length
      · have g1 : decide ((3000 : Int) < (x.length : Int)) = true := decide_eq_true (by omega)
        have g2 : (3000 : Int) ≤ (x.length : Int) := by omega
        have g3 : (0 : Int) ≤ 3000 := by decide
        (refine VT_ok hctr (rs := res6) true 6 _ _ _ ?_; simp (maxSteps := 1000000) only [VT, jf, jg, jZ, ja, jd, je, VC, qA, qB, qC, qD, qE, qF, qG, qH, qI, qJ, qK, qL, qM, qN, qO, qP, qQ, qR, qS, qT, qU, qV, qW, qX, qY, qZ, qe, qf, qg, qh, qj, qk, ql, qm, qn, qo, qp, qq, q0t, qu, qv, ev, qw, qy, qz, zA, zB, zC, zD, zE, zF, zG, zH, zI, zJ, TE.sv, zK, zL, zM, ↓reduceIte, reduceCtorEq, Value.oneCell', Nat.reduceEqDiff, Nat.reduceAdd, Nat.reduceLT, Nat.reduceBEq, Nat.reduceSub, Nat.reduceLeDiff, zP, zQ, zR, zS, zT, zU, zV, zW, zX, zY, zZ, za, zb, zc, zd, ze, zf, zg, zh, zi, zj, zk, zl, zm, zn, zo, zp, zq, zr, zt, zu, zw, zx, zy, zz, cE, jA, jB, hap, killE, deadOf, rwE, cD, cO, jC, jD, jE, jF, jG, jH, jI, jJ, jK, jL, jM, jN, jO, jP, jQ, jR, jS, jT, jU, jV, jW, jX, jY, hP, hk, res6, kp6, clC, Int.toNat_natCast, Nat.mul_one, Int.le_refl, beq_self_eq_true, bne_self_eq_false, Bool.not_false, Bool.not_true, true_and, g1, g2, g3, List.drop_zero, Int.reduceToNat])
        exact htail ⟨x.take 3000, by rw [List.length_take]; omega⟩ _ (sub_mk ⟨rfl, rfl, rfl, rfl, rfl, rfl, rfl, trivial⟩)
      · have g1 : decide ((3000 : Int) < (x.length : Int)) = false := decide_eq_false (by omega)
        (refine VT_ok hctr (rs := res6) true 2 _ _ _ ?_; simp (maxSteps := 1000000) only [VT, jf, jg, jZ, ja, jd, je, VC, qA, qB, qC, qD, qE, qF, qG, qH, qI, qJ, qK, qL, qM, qN, qO, qP, qQ, qR, qS, qT, qU, qV, qW, qX, qY, qZ, qe, qf, qg, qh, qj, qk, ql, qm, qn, qo, qp, qq, q0t, qu, qv, ev, qw, qy, qz, zA, zB, zC, zD, zE, zF, zG, zH, zI, zJ, TE.sv, zK, zL, zM, ↓reduceIte, reduceCtorEq, Value.oneCell', Nat.reduceEqDiff, Nat.reduceAdd, Nat.reduceLT, Nat.reduceBEq, Nat.reduceSub, Nat.reduceLeDiff, zP, zQ, zR, zS, zT, zU, zV, zW, zX, zY, zZ, za, zb, zc, zd, ze, zf, zg, zh, zi, zj, zk, zl, zm, zn, zo, zp, zq, zr, zt, zu, zw, zx, zy, zz, cE, jA, jB, hap, killE, deadOf, rwE, cD, cO, jC, jD, jE, jF, jG, jH, jI, jJ, jK, jL, jM, jN, jO, jP, jQ, jR, jS, jT, jU, jV, jW, jX, jY, hP, hk, res6, kp6, clC, Int.toNat_natCast, Nat.mul_one, Int.le_refl, beq_self_eq_true, bne_self_eq_false, Bool.not_false, Bool.not_true, g1])
        exact htail ⟨x, by omega⟩ _ (sub_mk ⟨rfl, rfl, rfl, rfl, rfl, rfl, rfl, trivial⟩)
    rintro ⟨s, hs⟩
    show Run D _ 87 (slW2 (some ⟨b, ofs, none⟩) n c a2 n2 c2 i O R s) [cnE (cR R) true]
    (refine VT_ok hctr (rs := res6) true 300 _ _ _ ?_; simp (maxSteps := 1000000) only [VT, jf, jg, jZ, ja, jd, je, VC, qA, qB, qC, qD, qE, qF, qG, qH, qI, qJ, qK, qL, qM, qN, qO, qP, qQ, qR, qS, qT, qU, qV, qW, qX, qY, qZ, qe, qf, qg, qh, qj, qk, ql, qm, qn, qo, qp, qq, q0t, qu, qv, ev, qw, qy, qz, zA, zB, zC, zD, zE, zF, zG, zH, zI, zJ, TE.sv, zK, zL, zM, ↓reduceIte, reduceCtorEq, Value.oneCell', Nat.reduceEqDiff, Nat.reduceAdd, Nat.reduceLT, Nat.reduceBEq, Nat.reduceSub, Nat.reduceLeDiff, zP, zQ, zR, zS, zT, zU, zV, zW, zX, zY, zZ, za, zb, zc, zd, ze, zf, zg, zh, zi, zj, zk, zl, zm, zn, zo, zp, zq, zr, zt, zu, zw, zx, zy, zz, cE, jA, jB, hap, killE, deadOf, rwE, cD, cO, jC, jD, jE, jF, jG, jH, jI, jJ, jK, jL, jM, jN, jO, jP, jQ, jR, jS, jT, jU, jV, jW, jX, jY, hP, hk, res6, kp6, clC, Int.toNat_natCast, Nat.mul_one, Int.le_refl, beq_self_eq_true, bne_self_eq_false, Bool.not_false, Bool.not_true, slW2])
    refine Run_cn (N := 0) (c := (cR R)) (cR (R ++ s)) (ys := [.c (.s s)]) (.t []) rfl hP rfl (by simp [zG]) (fun args w => Tryz.call14 args w) (fun pr => by simp [SV.wf, SC.wf, TE.wf]) (fun ρ w g h => put_w (c := cR R) s (by show R.length + _ ≤ _; omega) h) rfl (by simp) ?_
    have e0 : (O ++ R).length = O.length + R.length := List.length_append
    have e1 : (R ++ s).length = R.length + s.length := List.length_append
    by_cases hi3 : i < n2
    · have c3 : decide ((i : Int) < (n2 : Int)) = true := decide_eq_true (by omega)
      obtain ⟨b2, of2, z, ha2, r2⟩ := hraw2.rd (D := D) hS hw0 hi3
      subst ha2
      have p2 : (i : Int) < (n2 : Int) := by omega
      (refine VT_ok hctr (rs := res6) true 300 _ _ _ ?_; simp (maxSteps := 1000000) only [VT, jf, jg, jZ, ja, jd, je, VC, qA, qB, qC, qD, qE, qF, qG, qH, qI, qJ, qK, qL, qM, qN, qO, qP, qQ, qR, qS, qT, qU, qV, qW, qX, qY, qZ, qe, qf, qg, qh, qj, qk, ql, qm, qn, qo, qp, qq, q0t, qu, qv, ev, qw, qy, qz, zA, zB, zC, zD, zE, zF, zG, zH, zI, zJ, TE.sv, zK, zL, zM, ↓reduceIte, reduceCtorEq, Value.oneCell', Nat.reduceEqDiff, Nat.reduceAdd, Nat.reduceLT, Nat.reduceBEq, Nat.reduceSub, Nat.reduceLeDiff, zP, zQ, zR, zS, zT, zU, zV, zW, zX, zY, zZ, za, zb, zc, zd, ze, zf, zg, zh, zi, zj, zk, zl, zm, zn, zo, zp, zq, zr, zt, zu, zw, zx, zy, zz, cE, jA, jB, hap, killE, deadOf, rwE, cD, cO, jC, jD, jE, jF, jG, jH, jI, jJ, jK, jL, jM, jN, jO, jP, jQ, jR, jS, jT, jU, jV, jW, jX, jY, hP, hk, res6, kp6, clC, Int.toNat_natCast, Nat.mul_one, Int.le_refl, beq_self_eq_true, bne_self_eq_false, Bool.not_false, Bool.not_true, c3, r2, p0, p2])
      refine ⟨by omega, ?_⟩
      obtain ⟨k, hk2⟩ : ∃ k, cnHow (cR (R ++ s)) z = k := ⟨_, rfl⟩
      have hkl : k ≤ (R ++ s).length := by rw [← hk2]; exact Nat.min_le_right _ _
      have hkz : (k : Int) ≤ (if (0 : Int) < z then z else 0) := by
        rw [← hk2]
        show ((min z.toNat (R ++ s).length : Nat) : Int) ≤ _
        split <;> omega
      have hwr : cnWrite (cR (R ++ s)) z = (cR ((R ++ s).drop k), (R ++ s).take k) := by unfold cnWrite; rw [hk2]; rfl
      refine Run_cn (N := 0) (c := (cR (R ++ s))) (cR ((R ++ s).drop k)) (ys := [.c (.i .i64 z)]) (.c (.s ((R ++ s).take k))) rfl hP rfl (by simp [zG]) (fun args w => Tryz.call15 args w) (fun pr => by simp [SV.wf, SC.wf, TE.wf]) (fun ρ w g h => by have := write_w (c := cR (R ++ s)) z (by show (R ++ s).length ≤ _; omega) h; rw [hwr] at this; exact this) rfl (by simp) ?_
      have e2 : ((R ++ s).take k).length = k := by rw [List.length_take]; omega
      have c4 : decide ((if (0 : Int) < z then z else 0) < (k : Int)) = false := decide_eq_false (by omega)
      (refine VT_ok hctr (rs := res6) true 300 _ _ _ ?_; simp (maxSteps := 1000000) only [VT, jf, jg, jZ, ja, jd, je, VC, qA, qB, qC, qD, qE, qF, qG, qH, qI, qJ, qK, qL, qM, qN, qO, qP, qQ, qR, qS, qT, qU, qV, qW, qX, qY, qZ, qe, qf, qg, qh, qj, qk, ql, qm, qn, qo, qp, qq, q0t, qu, qv, ev, qw, qy, qz, zA, zB, zC, zD, zE, zF, zG, zH, zI, zJ, TE.sv, zK, zL, zM, ↓reduceIte, reduceCtorEq, Value.oneCell', Nat.reduceEqDiff, Nat.reduceAdd, Nat.reduceLT, Nat.reduceBEq, Nat.reduceSub, Nat.reduceLeDiff, zP, zQ, zR, zS, zT, zU, zV, zW, zX, zY, zZ, za, zb, zc, zd, ze, zf, zg, zh, zi, zj, zk, zl, zm, zn, zo, zp, zq, zr, zt, zu, zw, zx, zy, zz, cE, jA, jB, hap, killE, deadOf, rwE, cD, cO, jC, jD, jE, jF, jG, jH, jI, jJ, jK, jL, jM, jN, jO, jP, jQ, jR, jS, jT, jU, jV, jW, jX, jY, hP, hk, res6, kp6, clC, Int.toNat_natCast, Nat.mul_one, Int.le_refl, beq_self_eq_true, bne_self_eq_false, Bool.not_false, Bool.not_true, r2, p0, p2, e2, c4, p3])
      refine ⟨by omega, hJ ⟨(i + 1, O ++ (R ++ s).take k, (R ++ s).drop k), by simp only; omega, by simp only; omega, ?_⟩ _ (by simp only; omega) (sub_mk ⟨rfl, rfl, ?_, rfl, rfl, rfl, trivial⟩)⟩
      · simp only [List.length_append, List.length_take, List.length_drop]; omega
      · have hA : O ++ R ++ s = (O ++ (R ++ s).take k) ++ (R ++ s).drop k := by rw [List.append_assoc, List.append_assoc, List.take_append_drop]
        simp only
        rw [← hA]; rfl
    · have c3 : decide ((i : Int) < (n2 : Int)) = false := decide_eq_false (by omega)
      (refine VT_ok hctr (rs := res6) true 300 _ _ _ ?_; simp (maxSteps := 1000000) only [VT, jf, jg, jZ, ja, jd, je, VC, qA, qB, qC, qD, qE, qF, qG, qH, qI, qJ, qK, qL, qM, qN, qO, qP, qQ, qR, qS, qT, qU, qV, qW, qX, qY, qZ, qe, qf, qg, qh, qj, qk, ql, qm, qn, qo, qp, qq, q0t, qu, qv, ev, qw, qy, qz, zA, zB, zC, zD, zE, zF, zG, zH, zI, zJ, TE.sv, zK, zL, zM, ↓reduceIte, reduceCtorEq, Value.oneCell', Nat.reduceEqDiff, Nat.reduceAdd, Nat.reduceLT, Nat.reduceBEq, Nat.reduceSub, Nat.reduceLeDiff, zP, zQ, zR, zS, zT, zU, zV, zW, zX, zY, zZ, za, zb, zc, zd, ze, zf, zg, zh, zi, zj, zk, zl, zm, zn, zo, zp, zq, zr, zt, zu, zw, zx, zy, zz, cE, jA, jB, hap, killE, deadOf, rwE, cD, cO, jC, jD, jE, jF, jG, jH, jI, jJ, jK, jL, jM, jN, jO, jP, jQ, jR, jS, jT, jU, jV, jW, jX, jY, hP, hk, res6, kp6, clC, Int.toNat_natCast, Nat.mul_one, Int.le_refl, beq_self_eq_true, bne_self_eq_false, Bool.not_false, Bool.not_true, c3, p3])
      refine ⟨by omega, hJ ⟨(i + 1, O, R ++ s), by simp only; omega, by simp only; omega, ?_⟩ _ (by simp only; omega) (sub_mk ⟨rfl, rfl, ?_, rfl, rfl, rfl, trivial⟩)⟩
      · simp only [List.length_append]; omega
      · simp only
        rw [← List.append_assoc]; rfl
end Go.Proofs.YtehfcboiimdkbaaGreatDoor
