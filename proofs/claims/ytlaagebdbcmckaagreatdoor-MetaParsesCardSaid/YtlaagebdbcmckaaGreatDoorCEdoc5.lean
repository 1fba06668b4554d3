/- The document's number and letter, walked. Printed by gen_edoc5.py. -/
import Derived.Test.YtlaagebdbcmckaaGreatDoorCEdec
import Derived.Test.YtlaagebdbcmckaaGreatDoorCB64Ref
import Derived.Test.YtlaagebdbcmckaaGreatDoorCEmq
namespace Go.Proofs.YtlaagebdbcmckaaGreatDoor
set_option linter.unusedSimpArgs false
set_option linter.unusedVariables false
set_option linter.unusedSimpArgs false
set_option linter.unusedVariables false
set_option maxHeartbeats 8000000
open Go.RowKit
set_option maxRecDepth 100000
def numD (x : UInt8) : Int × Bool :=
  if 65 ≤ x.toNat ∧ x.toNat ≤ 90 then (((x.toNat - 65 : Nat) : Int), true)
  else if 97 ≤ x.toNat ∧ x.toNat ≤ 122 then (((x.toNat - 97 + 26 : Nat) : Int), true)
  else if 48 ≤ x.toNat ∧ x.toNat ≤ 57 then (((x.toNat - 48 + 52 : Nat) : Int), true)
  else if x.toNat = 43 then (62, true) else if x.toNat = 47 then (63, true) else (0, false)
theorem u8i {a : Nat} (h : a < 256) : IntKind.u8.wrap (a : Int) = (a : Int) := by rw [u8w, Nat.mod_eq_of_lt h]
theorem dnumber_w (x : UInt8) (w : World) : Calls Tryz.prog 68 #[.int .u8 (x.toNat : Int)] w fun e w' => e = .returned (.tuple #[.int .u32 (numD x).1, .bool (numD x).2]) ∧ Below w.heap.size w w' := by
  refine calls_of_Run Tryz.func68 rfl kp68 (S := Non) (ρ := fun _ => reOf 0) (en := []) [.c (.i .u8 (x.toNat : Int))] Tryz.ntmps68 (At.nil _ _ _) (by simp [SV.wf, SC.wf]) (by simp) ?_
  intro C hC hP hk
  have hctr := noC_ok hP
  have fin : ∀ (n : Int) b en, numD x = (n, b) → Fin C res68 (.t [.c (.i .u32 n), .c (.b b)]) en := fun n b en h => Fin_ro (v := .t [.c (.i .u32 (numD x).1), .c (.b (numD x).2)]) hC hres68 (by rw [h]) (by simp [SV.wf, TE.wf, SC.wf])
  obtain ⟨n, hn⟩ : ∃ n, x.toNat = n := ⟨_, rfl⟩
  have hn8 := x.toNat_lt
  rw [hn] at hn8
  unfold numD at fin
  rw [hn] at fin ⊢
  have hc : (0 ≤ n ∧ n ≤ 42) ∨ (43 ≤ n ∧ n ≤ 43) ∨ (44 ≤ n ∧ n ≤ 46) ∨ (47 ≤ n ∧ n ≤ 47) ∨ (48 ≤ n ∧ n ≤ 57) ∨ (58 ≤ n ∧ n ≤ 64) ∨ (65 ≤ n ∧ n ≤ 90) ∨ (91 ≤ n ∧ n ≤ 96) ∨ (97 ≤ n ∧ n ≤ 122) ∨ (123 ≤ n ∧ n ≤ 255) := by omega
  rcases hc with h | h | h | h | h | h | h | h | h | h
  · skip
    have a : decide (65 ≤ (n : Int)) = false := decide_eq_false (by omega)
    have b : decide ((n : Int) ≤ 90) = true := decide_eq_true (by omega)
    have c : decide (97 ≤ (n : Int)) = false := decide_eq_false (by omega)
    have d : decide ((n : Int) ≤ 122) = true := decide_eq_true (by omega)
    have e : decide (48 ≤ (n : Int)) = false := decide_eq_false (by omega)
    have f : decide ((n : Int) ≤ 57) = true := decide_eq_true (by omega)
    have g : ((n : Int) == 43) = false := by rw [beq_eq_false_iff_ne]; omega
    have i : ((n : Int) == 47) = false := by rw [beq_eq_false_iff_ne]; omega
    (refine VT_ok hctr (rs := res68) true 300 _ _ _ ?_; simp (maxSteps := 1000000) only [VT, jf, jg, jZ, ja, jd, je, VC, qA, qB, qC, qD, qE, qF, qG, qH, qI, qJ, qK, qL, qM, qN, qO, qP, qQ, qR, qS, qT, qU, qV, qW, qX, qY, qZ, qe, qf, qg, qh, qj, qk, ql, qm, qn, qo, qp, qq, q0t, qu, qv, ev, qw, qy, qz, zA, zB, zC, zD, zE, zF, zG, zH, zI, zJ, TE.sv, zK, zL, zM, ↓reduceIte, reduceCtorEq, Value.oneCell', Nat.reduceEqDiff, Nat.reduceAdd, Nat.reduceLT, Nat.reduceBEq, Nat.reduceSub, Nat.reduceLeDiff, zP, zQ, zR, zS, zT, zU, zV, zW, zX, zY, zZ, za, zb, zc, zd, ze, zf, zg, zh, zi, zj, zk, zl, zm, zn, zo, zp, zq, zr, zt, zu, zw, zx, zy, zz, cE, jA, jB, hap, killE, deadOf, rwE, cD, cO, jC, jD, jE, jF, jG, jH, jI, jJ, jK, jL, jM, jN, jO, jP, jQ, jR, jS, jT, jU, jV, jW, jX, jY, hP, hk, res68, kp68, noC, a, b, c, d, e, f, g, i])
    exact fin _ _ _ (by rw [if_neg (by omega), if_neg (by omega), if_neg (by omega), if_neg (by omega), if_neg (by omega)])
  · skip
    have a : decide (65 ≤ (n : Int)) = false := decide_eq_false (by omega)
    have b : decide ((n : Int) ≤ 90) = true := decide_eq_true (by omega)
    have c : decide (97 ≤ (n : Int)) = false := decide_eq_false (by omega)
    have d : decide ((n : Int) ≤ 122) = true := decide_eq_true (by omega)
    have e : decide (48 ≤ (n : Int)) = false := decide_eq_false (by omega)
    have f : decide ((n : Int) ≤ 57) = true := decide_eq_true (by omega)
    have g : ((n : Int) == 43) = true := by rw [beq_iff_eq]; omega
    have i : ((n : Int) == 47) = false := by rw [beq_eq_false_iff_ne]; omega
    (refine VT_ok hctr (rs := res68) true 300 _ _ _ ?_; simp (maxSteps := 1000000) only [VT, jf, jg, jZ, ja, jd, je, VC, qA, qB, qC, qD, qE, qF, qG, qH, qI, qJ, qK, qL, qM, qN, qO, qP, qQ, qR, qS, qT, qU, qV, qW, qX, qY, qZ, qe, qf, qg, qh, qj, qk, ql, qm, qn, qo, qp, qq, q0t, qu, qv, ev, qw, qy, qz, zA, zB, zC, zD, zE, zF, zG, zH, zI, zJ, TE.sv, zK, zL, zM, ↓reduceIte, reduceCtorEq, Value.oneCell', Nat.reduceEqDiff, Nat.reduceAdd, Nat.reduceLT, Nat.reduceBEq, Nat.reduceSub, Nat.reduceLeDiff, zP, zQ, zR, zS, zT, zU, zV, zW, zX, zY, zZ, za, zb, zc, zd, ze, zf, zg, zh, zi, zj, zk, zl, zm, zn, zo, zp, zq, zr, zt, zu, zw, zx, zy, zz, cE, jA, jB, hap, killE, deadOf, rwE, cD, cO, jC, jD, jE, jF, jG, jH, jI, jJ, jK, jL, jM, jN, jO, jP, jQ, jR, jS, jT, jU, jV, jW, jX, jY, hP, hk, res68, kp68, noC, a, b, c, d, e, f, g, i])
    exact fin _ _ _ (by rw [if_neg (by omega), if_neg (by omega), if_neg (by omega), if_pos (by omega)])
  · skip
    have a : decide (65 ≤ (n : Int)) = false := decide_eq_false (by omega)
    have b : decide ((n : Int) ≤ 90) = true := decide_eq_true (by omega)
    have c : decide (97 ≤ (n : Int)) = false := decide_eq_false (by omega)
    have d : decide ((n : Int) ≤ 122) = true := decide_eq_true (by omega)
    have e : decide (48 ≤ (n : Int)) = false := decide_eq_false (by omega)
    have f : decide ((n : Int) ≤ 57) = true := decide_eq_true (by omega)
    have g : ((n : Int) == 43) = false := by rw [beq_eq_false_iff_ne]; omega
    have i : ((n : Int) == 47) = false := by rw [beq_eq_false_iff_ne]; omega
    (refine VT_ok hctr (rs := res68) true 300 _ _ _ ?_; simp (maxSteps := 1000000) only [VT, jf, jg, jZ, ja, jd, je, VC, qA, qB, qC, qD, qE, qF, qG, qH, qI, qJ, qK, qL, qM, qN, qO, qP, qQ, qR, qS, qT, qU, qV, qW, qX, qY, qZ, qe, qf, qg, qh, qj, qk, ql, qm, qn, qo, qp, qq, q0t, qu, qv, ev, qw, qy, qz, zA, zB, zC, zD, zE, zF, zG, zH, zI, zJ, TE.sv, zK, zL, zM, ↓reduceIte, reduceCtorEq, Value.oneCell', Nat.reduceEqDiff, Nat.reduceAdd, Nat.reduceLT, Nat.reduceBEq, Nat.reduceSub, Nat.reduceLeDiff, zP, zQ, zR, zS, zT, zU, zV, zW, zX, zY, zZ, za, zb, zc, zd, ze, zf, zg, zh, zi, zj, zk, zl, zm, zn, zo, zp, zq, zr, zt, zu, zw, zx, zy, zz, cE, jA, jB, hap, killE, deadOf, rwE, cD, cO, jC, jD, jE, jF, jG, jH, jI, jJ, jK, jL, jM, jN, jO, jP, jQ, jR, jS, jT, jU, jV, jW, jX, jY, hP, hk, res68, kp68, noC, a, b, c, d, e, f, g, i])
    exact fin _ _ _ (by rw [if_neg (by omega), if_neg (by omega), if_neg (by omega), if_neg (by omega), if_neg (by omega)])
  · skip
    have a : decide (65 ≤ (n : Int)) = false := decide_eq_false (by omega)
    have b : decide ((n : Int) ≤ 90) = true := decide_eq_true (by omega)
    have c : decide (97 ≤ (n : Int)) = false := decide_eq_false (by omega)
    have d : decide ((n : Int) ≤ 122) = true := decide_eq_true (by omega)
    have e : decide (48 ≤ (n : Int)) = false := decide_eq_false (by omega)
    have f : decide ((n : Int) ≤ 57) = true := decide_eq_true (by omega)
    have g : ((n : Int) == 43) = false := by rw [beq_eq_false_iff_ne]; omega
    have i : ((n : Int) == 47) = true := by rw [beq_iff_eq]; omega
    (refine VT_ok hctr (rs := res68) true 300 _ _ _ ?_; simp (maxSteps := 1000000) only [VT, jf, jg, jZ, ja, jd, je, VC, qA, qB, qC, qD, qE, qF, qG, qH, qI, qJ, qK, qL, qM, qN, qO, qP, qQ, qR, qS, qT, qU, qV, qW, qX, qY, qZ, qe, qf, qg, qh, qj, qk, ql, qm, qn, qo, qp, qq, q0t, qu, qv, ev, qw, qy, qz, zA, zB, zC, zD, zE, zF, zG, zH, zI, zJ, TE.sv, zK, zL, zM, ↓reduceIte, reduceCtorEq, Value.oneCell', Nat.reduceEqDiff, Nat.reduceAdd, Nat.reduceLT, Nat.reduceBEq, Nat.reduceSub, Nat.reduceLeDiff, zP, zQ, zR, zS, zT, zU, zV, zW, zX, zY, zZ, za, zb, zc, zd, ze, zf, zg, zh, zi, zj, zk, zl, zm, zn, zo, zp, zq, zr, zt, zu, zw, zx, zy, zz, cE, jA, jB, hap, killE, deadOf, rwE, cD, cO, jC, jD, jE, jF, jG, jH, jI, jJ, jK, jL, jM, jN, jO, jP, jQ, jR, jS, jT, jU, jV, jW, jX, jY, hP, hk, res68, kp68, noC, a, b, c, d, e, f, g, i])
    exact fin _ _ _ (by rw [if_neg (by omega), if_neg (by omega), if_neg (by omega), if_neg (by omega), if_pos (by omega)])
  · skip
    have a : decide (65 ≤ (n : Int)) = false := decide_eq_false (by omega)
    have b : decide ((n : Int) ≤ 90) = true := decide_eq_true (by omega)
    have c : decide (97 ≤ (n : Int)) = false := decide_eq_false (by omega)
    have d : decide ((n : Int) ≤ 122) = true := decide_eq_true (by omega)
    have e : decide (48 ≤ (n : Int)) = true := decide_eq_true (by omega)
    have f : decide ((n : Int) ≤ 57) = true := decide_eq_true (by omega)
    have g : ((n : Int) == 43) = false := by rw [beq_eq_false_iff_ne]; omega
    have i : ((n : Int) == 47) = false := by rw [beq_eq_false_iff_ne]; omega
    have w1 : (n : Int) - 48 = ((n - 48 : Nat) : Int) := by omega
    have w2 : IntKind.u8.wrap ((n - 48 : Nat) : Int) = ((n - 48 : Nat) : Int) := u8i (by omega)
    have w3 : IntKind.u32.wrap ((n - 48 : Nat) : Int) = ((n - 48 : Nat) : Int) := u32i (by omega)
    have w4 : IntKind.u32.wrap (((n - 48 : Nat) : Int) + 52) = ((n - 48 + 52 : Nat) : Int) := by rw [show ((n - 48 : Nat) : Int) + 52 = ((n - 48 + 52 : Nat) : Int) by omega]; exact u32i (by omega)
    (refine VT_ok hctr (rs := res68) true 300 _ _ _ ?_; simp (maxSteps := 1000000) only [VT, jf, jg, jZ, ja, jd, je, VC, qA, qB, qC, qD, qE, qF, qG, qH, qI, qJ, qK, qL, qM, qN, qO, qP, qQ, qR, qS, qT, qU, qV, qW, qX, qY, qZ, qe, qf, qg, qh, qj, qk, ql, qm, qn, qo, qp, qq, q0t, qu, qv, ev, qw, qy, qz, zA, zB, zC, zD, zE, zF, zG, zH, zI, zJ, TE.sv, zK, zL, zM, ↓reduceIte, reduceCtorEq, Value.oneCell', Nat.reduceEqDiff, Nat.reduceAdd, Nat.reduceLT, Nat.reduceBEq, Nat.reduceSub, Nat.reduceLeDiff, zP, zQ, zR, zS, zT, zU, zV, zW, zX, zY, zZ, za, zb, zc, zd, ze, zf, zg, zh, zi, zj, zk, zl, zm, zn, zo, zp, zq, zr, zt, zu, zw, zx, zy, zz, cE, jA, jB, hap, killE, deadOf, rwE, cD, cO, jC, jD, jE, jF, jG, jH, jI, jJ, jK, jL, jM, jN, jO, jP, jQ, jR, jS, jT, jU, jV, jW, jX, jY, hP, hk, res68, kp68, noC, a, b, c, d, e, f, g, i, w1, w2, w3, w4])
    exact fin _ _ _ (by rw [if_neg (by omega), if_neg (by omega), if_pos (by omega)])
  · skip
    have a : decide (65 ≤ (n : Int)) = false := decide_eq_false (by omega)
    have b : decide ((n : Int) ≤ 90) = true := decide_eq_true (by omega)
    have c : decide (97 ≤ (n : Int)) = false := decide_eq_false (by omega)
    have d : decide ((n : Int) ≤ 122) = true := decide_eq_true (by omega)
    have e : decide (48 ≤ (n : Int)) = true := decide_eq_true (by omega)
    have f : decide ((n : Int) ≤ 57) = false := decide_eq_false (by omega)
    have g : ((n : Int) == 43) = false := by rw [beq_eq_false_iff_ne]; omega
    have i : ((n : Int) == 47) = false := by rw [beq_eq_false_iff_ne]; omega
    (refine VT_ok hctr (rs := res68) true 300 _ _ _ ?_; simp (maxSteps := 1000000) only [VT, jf, jg, jZ, ja, jd, je, VC, qA, qB, qC, qD, qE, qF, qG, qH, qI, qJ, qK, qL, qM, qN, qO, qP, qQ, qR, qS, qT, qU, qV, qW, qX, qY, qZ, qe, qf, qg, qh, qj, qk, ql, qm, qn, qo, qp, qq, q0t, qu, qv, ev, qw, qy, qz, zA, zB, zC, zD, zE, zF, zG, zH, zI, zJ, TE.sv, zK, zL, zM, ↓reduceIte, reduceCtorEq, Value.oneCell', Nat.reduceEqDiff, Nat.reduceAdd, Nat.reduceLT, Nat.reduceBEq, Nat.reduceSub, Nat.reduceLeDiff, zP, zQ, zR, zS, zT, zU, zV, zW, zX, zY, zZ, za, zb, zc, zd, ze, zf, zg, zh, zi, zj, zk, zl, zm, zn, zo, zp, zq, zr, zt, zu, zw, zx, zy, zz, cE, jA, jB, hap, killE, deadOf, rwE, cD, cO, jC, jD, jE, jF, jG, jH, jI, jJ, jK, jL, jM, jN, jO, jP, jQ, jR, jS, jT, jU, jV, jW, jX, jY, hP, hk, res68, kp68, noC, a, b, c, d, e, f, g, i])
    exact fin _ _ _ (by rw [if_neg (by omega), if_neg (by omega), if_neg (by omega), if_neg (by omega), if_neg (by omega)])
  · skip
    have a : decide (65 ≤ (n : Int)) = true := decide_eq_true (by omega)
    have b : decide ((n : Int) ≤ 90) = true := decide_eq_true (by omega)
    have c : decide (97 ≤ (n : Int)) = false := decide_eq_false (by omega)
    have d : decide ((n : Int) ≤ 122) = true := decide_eq_true (by omega)
    have e : decide (48 ≤ (n : Int)) = true := decide_eq_true (by omega)
    have f : decide ((n : Int) ≤ 57) = false := decide_eq_false (by omega)
    have g : ((n : Int) == 43) = false := by rw [beq_eq_false_iff_ne]; omega
    have i : ((n : Int) == 47) = false := by rw [beq_eq_false_iff_ne]; omega
    have w1 : (n : Int) - 65 = ((n - 65 : Nat) : Int) := by omega
    have w2 : IntKind.u8.wrap ((n - 65 : Nat) : Int) = ((n - 65 : Nat) : Int) := u8i (by omega)
    have w3 : IntKind.u32.wrap ((n - 65 : Nat) : Int) = ((n - 65 : Nat) : Int) := u32i (by omega)
    (refine VT_ok hctr (rs := res68) true 300 _ _ _ ?_; simp (maxSteps := 1000000) only [VT, jf, jg, jZ, ja, jd, je, VC, qA, qB, qC, qD, qE, qF, qG, qH, qI, qJ, qK, qL, qM, qN, qO, qP, qQ, qR, qS, qT, qU, qV, qW, qX, qY, qZ, qe, qf, qg, qh, qj, qk, ql, qm, qn, qo, qp, qq, q0t, qu, qv, ev, qw, qy, qz, zA, zB, zC, zD, zE, zF, zG, zH, zI, zJ, TE.sv, zK, zL, zM, ↓reduceIte, reduceCtorEq, Value.oneCell', Nat.reduceEqDiff, Nat.reduceAdd, Nat.reduceLT, Nat.reduceBEq, Nat.reduceSub, Nat.reduceLeDiff, zP, zQ, zR, zS, zT, zU, zV, zW, zX, zY, zZ, za, zb, zc, zd, ze, zf, zg, zh, zi, zj, zk, zl, zm, zn, zo, zp, zq, zr, zt, zu, zw, zx, zy, zz, cE, jA, jB, hap, killE, deadOf, rwE, cD, cO, jC, jD, jE, jF, jG, jH, jI, jJ, jK, jL, jM, jN, jO, jP, jQ, jR, jS, jT, jU, jV, jW, jX, jY, hP, hk, res68, kp68, noC, a, b, c, d, e, f, g, i, w1, w2, w3])
    exact fin _ _ _ (by rw [if_pos (by omega)])
  · skip
    have a : decide (65 ≤ (n : Int)) = true := decide_eq_true (by omega)
    have b : decide ((n : Int) ≤ 90) = false := decide_eq_false (by omega)
    have c : decide (97 ≤ (n : Int)) = false := decide_eq_false (by omega)
    have d : decide ((n : Int) ≤ 122) = true := decide_eq_true (by omega)
    have e : decide (48 ≤ (n : Int)) = true := decide_eq_true (by omega)
    have f : decide ((n : Int) ≤ 57) = false := decide_eq_false (by omega)
    have g : ((n : Int) == 43) = false := by rw [beq_eq_false_iff_ne]; omega
    have i : ((n : Int) == 47) = false := by rw [beq_eq_false_iff_ne]; omega
    (refine VT_ok hctr (rs := res68) true 300 _ _ _ ?_; simp (maxSteps := 1000000) only [VT, jf, jg, jZ, ja, jd, je, VC, qA, qB, qC, qD, qE, qF, qG, qH, qI, qJ, qK, qL, qM, qN, qO, qP, qQ, qR, qS, qT, qU, qV, qW, qX, qY, qZ, qe, qf, qg, qh, qj, qk, ql, qm, qn, qo, qp, qq, q0t, qu, qv, ev, qw, qy, qz, zA, zB, zC, zD, zE, zF, zG, zH, zI, zJ, TE.sv, zK, zL, zM, ↓reduceIte, reduceCtorEq, Value.oneCell', Nat.reduceEqDiff, Nat.reduceAdd, Nat.reduceLT, Nat.reduceBEq, Nat.reduceSub, Nat.reduceLeDiff, zP, zQ, zR, zS, zT, zU, zV, zW, zX, zY, zZ, za, zb, zc, zd, ze, zf, zg, zh, zi, zj, zk, zl, zm, zn, zo, zp, zq, zr, zt, zu, zw, zx, zy, zz, cE, jA, jB, hap, killE, deadOf, rwE, cD, cO, jC, jD, jE, jF, jG, jH, jI, jJ, jK, jL, jM, jN, jO, jP, jQ, jR, jS, jT, jU, jV, jW, jX, jY, hP, hk, res68, kp68, noC, a, b, c, d, e, f, g, i])
    exact fin _ _ _ (by rw [if_neg (by omega), if_neg (by omega), if_neg (by omega), if_neg (by omega), if_neg (by omega)])
  · skip
    have a : decide (65 ≤ (n : Int)) = true := decide_eq_true (by omega)
    have b : decide ((n : Int) ≤ 90) = false := decide_eq_false (by omega)
    have c : decide (97 ≤ (n : Int)) = true := decide_eq_true (by omega)
    have d : decide ((n : Int) ≤ 122) = true := decide_eq_true (by omega)
    have e : decide (48 ≤ (n : Int)) = true := decide_eq_true (by omega)
    have f : decide ((n : Int) ≤ 57) = false := decide_eq_false (by omega)
    have g : ((n : Int) == 43) = false := by rw [beq_eq_false_iff_ne]; omega
    have i : ((n : Int) == 47) = false := by rw [beq_eq_false_iff_ne]; omega
    have w1 : (n : Int) - 97 = ((n - 97 : Nat) : Int) := by omega
    have w2 : IntKind.u8.wrap ((n - 97 : Nat) : Int) = ((n - 97 : Nat) : Int) := u8i (by omega)
    have w3 : IntKind.u32.wrap ((n - 97 : Nat) : Int) = ((n - 97 : Nat) : Int) := u32i (by omega)
    have w4 : IntKind.u32.wrap (((n - 97 : Nat) : Int) + 26) = ((n - 97 + 26 : Nat) : Int) := by rw [show ((n - 97 : Nat) : Int) + 26 = ((n - 97 + 26 : Nat) : Int) by omega]; exact u32i (by omega)
    (refine VT_ok hctr (rs := res68) true 300 _ _ _ ?_; simp (maxSteps := 1000000) only [VT, jf, jg, jZ, ja, jd, je, VC, qA, qB, qC, qD, qE, qF, qG, qH, qI, qJ, qK, qL, qM, qN, qO, qP, qQ, qR, qS, qT, qU, qV, qW, qX, qY, qZ, qe, qf, qg, qh, qj, qk, ql, qm, qn, qo, qp, qq, q0t, qu, qv, ev, qw, qy, qz, zA, zB, zC, zD, zE, zF, zG, zH, zI, zJ, TE.sv, zK, zL, zM, ↓reduceIte, reduceCtorEq, Value.oneCell', Nat.reduceEqDiff, Nat.reduceAdd, Nat.reduceLT, Nat.reduceBEq, Nat.reduceSub, Nat.reduceLeDiff, zP, zQ, zR, zS, zT, zU, zV, zW, zX, zY, zZ, za, zb, zc, zd, ze, zf, zg, zh, zi, zj, zk, zl, zm, zn, zo, zp, zq, zr, zt, zu, zw, zx, zy, zz, cE, jA, jB, hap, killE, deadOf, rwE, cD, cO, jC, jD, jE, jF, jG, jH, jI, jJ, jK, jL, jM, jN, jO, jP, jQ, jR, jS, jT, jU, jV, jW, jX, jY, hP, hk, res68, kp68, noC, a, b, c, d, e, f, g, i, w1, w2, w3, w4])
    exact fin _ _ _ (by rw [if_neg (by omega), if_pos (by omega)])
  · skip
    have a : decide (65 ≤ (n : Int)) = true := decide_eq_true (by omega)
    have b : decide ((n : Int) ≤ 90) = false := decide_eq_false (by omega)
    have c : decide (97 ≤ (n : Int)) = true := decide_eq_true (by omega)
    have d : decide ((n : Int) ≤ 122) = false := decide_eq_false (by omega)
    have e : decide (48 ≤ (n : Int)) = true := decide_eq_true (by omega)
    have f : decide ((n : Int) ≤ 57) = false := decide_eq_false (by omega)
    have g : ((n : Int) == 43) = false := by rw [beq_eq_false_iff_ne]; omega
    have i : ((n : Int) == 47) = false := by rw [beq_eq_false_iff_ne]; omega
    (refine VT_ok hctr (rs := res68) true 300 _ _ _ ?_; simp (maxSteps := 1000000) only [VT, jf, jg, jZ, ja, jd, je, VC, qA, qB, qC, qD, qE, qF, qG, qH, qI, qJ, qK, qL, qM, qN, qO, qP, qQ, qR, qS, qT, qU, qV, qW, qX, qY, qZ, qe, qf, qg, qh, qj, qk, ql, qm, qn, qo, qp, qq, q0t, qu, qv, ev, qw, qy, qz, zA, zB, zC, zD, zE, zF, zG, zH, zI, zJ, TE.sv, zK, zL, zM, ↓reduceIte, reduceCtorEq, Value.oneCell', Nat.reduceEqDiff, Nat.reduceAdd, Nat.reduceLT, Nat.reduceBEq, Nat.reduceSub, Nat.reduceLeDiff, zP, zQ, zR, zS, zT, zU, zV, zW, zX, zY, zZ, za, zb, zc, zd, ze, zf, zg, zh, zi, zj, zk, zl, zm, zn, zo, zp, zq, zr, zt, zu, zw, zx, zy, zz, cE, jA, jB, hap, killE, deadOf, rwE, cD, cO, jC, jD, jE, jF, jG, jH, jI, jJ, jK, jL, jM, jN, jO, jP, jQ, jR, jS, jT, jU, jV, jW, jX, jY, hP, hk, res68, kp68, noC, a, b, c, d, e, f, g, i])
    exact fin _ _ _ (by rw [if_neg (by omega), if_neg (by omega), if_neg (by omega), if_neg (by omega), if_neg (by omega)])
theorem dletter_w (k : Nat) (hk64 : k < 64) (w : World) : Calls Tryz.prog 90 #[.int .u32 (k : Int)] w fun e w' => e = .returned (.int .u8 ((letB k).toNat : Int)) ∧ Below w.heap.size w w' := by
  refine calls_of_Run Tryz.func90 rfl kp90 (S := Non) (ρ := fun _ => reOf 0) (en := []) [.c (.i .u32 (k : Int))] Tryz.ntmps90 (At.nil _ _ _) (by simp [SV.wf, SC.wf]) (by simp) ?_
  intro C hC hP hk
  have hctr := noC_ok hP
  have fin : ∀ (n : Nat) en, (letB k).toNat = n → Fin C res90 (.c (.i .u8 (n : Int))) en := fun n en h => by subst h; exact Fin_ro (v := .c (.i .u8 ((letB k).toNat : Int))) hC hres90 rfl trivial
  have tab : ∀ k : _root_.Fin 64, (letB k.1).toNat = (if k.1 < 26 then 65 + k.1 else if k.1 < 52 then 97 + k.1 - 26 else if k.1 < 62 then 48 + k.1 - 52 else if k.1 = 62 then 43 else 47) := by decide
  have ht := tab ⟨k, hk64⟩
  simp only at ht
  by_cases h0 : k < 26
  · have a : decide ((k : Int) < 26) = true := decide_eq_true (by omega)
    have w1 : IntKind.u32.wrap (65 + (k : Int)) = ((65 + k : Nat) : Int) := by rw [show 65 + (k : Int) = ((65 + k : Nat) : Int) by omega]; exact u32i (by omega)
    have w2 : IntKind.u8.wrap ((65 + k : Nat) : Int) = ((65 + k : Nat) : Int) := u8i (by omega)
    (refine VT_ok hctr (rs := res90) true 300 _ _ _ ?_; simp (maxSteps := 1000000) only [VT, jf, jg, jZ, ja, jd, je, VC, qA, qB, qC, qD, qE, qF, qG, qH, qI, qJ, qK, qL, qM, qN, qO, qP, qQ, qR, qS, qT, qU, qV, qW, qX, qY, qZ, qe, qf, qg, qh, qj, qk, ql, qm, qn, qo, qp, qq, q0t, qu, qv, ev, qw, qy, qz, zA, zB, zC, zD, zE, zF, zG, zH, zI, zJ, TE.sv, zK, zL, zM, ↓reduceIte, reduceCtorEq, Value.oneCell', Nat.reduceEqDiff, Nat.reduceAdd, Nat.reduceLT, Nat.reduceBEq, Nat.reduceSub, Nat.reduceLeDiff, zP, zQ, zR, zS, zT, zU, zV, zW, zX, zY, zZ, za, zb, zc, zd, ze, zf, zg, zh, zi, zj, zk, zl, zm, zn, zo, zp, zq, zr, zt, zu, zw, zx, zy, zz, cE, jA, jB, hap, killE, deadOf, rwE, cD, cO, jC, jD, jE, jF, jG, jH, jI, jJ, jK, jL, jM, jN, jO, jP, jQ, jR, jS, jT, jU, jV, jW, jX, jY, hP, hk, res90, kp90, noC, a, w1, w2])
    exact fin _ _ (by rw [ht, if_pos h0])
  have a : decide ((k : Int) < 26) = false := decide_eq_false (by omega)
  by_cases h1 : k < 52
  · have b : decide ((k : Int) < 52) = true := decide_eq_true (by omega)
    have w1 : IntKind.u32.wrap (97 + (k : Int)) = ((97 + k : Nat) : Int) := by rw [show 97 + (k : Int) = ((97 + k : Nat) : Int) by omega]; exact u32i (by omega)
    have w2 : IntKind.u32.wrap (((97 + k : Nat) : Int) - 26) = ((97 + k - 26 : Nat) : Int) := by rw [show ((97 + k : Nat) : Int) - 26 = ((97 + k - 26 : Nat) : Int) by omega]; exact u32i (by omega)
    have w3 : IntKind.u8.wrap ((97 + k - 26 : Nat) : Int) = ((97 + k - 26 : Nat) : Int) := u8i (by omega)
    (refine VT_ok hctr (rs := res90) true 300 _ _ _ ?_; simp (maxSteps := 1000000) only [VT, jf, jg, jZ, ja, jd, je, VC, qA, qB, qC, qD, qE, qF, qG, qH, qI, qJ, qK, qL, qM, qN, qO, qP, qQ, qR, qS, qT, qU, qV, qW, qX, qY, qZ, qe, qf, qg, qh, qj, qk, ql, qm, qn, qo, qp, qq, q0t, qu, qv, ev, qw, qy, qz, zA, zB, zC, zD, zE, zF, zG, zH, zI, zJ, TE.sv, zK, zL, zM, ↓reduceIte, reduceCtorEq, Value.oneCell', Nat.reduceEqDiff, Nat.reduceAdd, Nat.reduceLT, Nat.reduceBEq, Nat.reduceSub, Nat.reduceLeDiff, zP, zQ, zR, zS, zT, zU, zV, zW, zX, zY, zZ, za, zb, zc, zd, ze, zf, zg, zh, zi, zj, zk, zl, zm, zn, zo, zp, zq, zr, zt, zu, zw, zx, zy, zz, cE, jA, jB, hap, killE, deadOf, rwE, cD, cO, jC, jD, jE, jF, jG, jH, jI, jJ, jK, jL, jM, jN, jO, jP, jQ, jR, jS, jT, jU, jV, jW, jX, jY, hP, hk, res90, kp90, noC, a, b, w1, w2, w3])
    exact fin _ _ (by rw [ht, if_neg h0, if_pos h1])
  have b : decide ((k : Int) < 52) = false := decide_eq_false (by omega)
  by_cases h2 : k < 62
  · have c : decide ((k : Int) < 62) = true := decide_eq_true (by omega)
    have w1 : IntKind.u32.wrap (48 + (k : Int)) = ((48 + k : Nat) : Int) := by rw [show 48 + (k : Int) = ((48 + k : Nat) : Int) by omega]; exact u32i (by omega)
    have w2 : IntKind.u32.wrap (((48 + k : Nat) : Int) - 52) = ((48 + k - 52 : Nat) : Int) := by rw [show ((48 + k : Nat) : Int) - 52 = ((48 + k - 52 : Nat) : Int) by omega]; exact u32i (by omega)
    have w3 : IntKind.u8.wrap ((48 + k - 52 : Nat) : Int) = ((48 + k - 52 : Nat) : Int) := u8i (by omega)
    (refine VT_ok hctr (rs := res90) true 300 _ _ _ ?_; simp (maxSteps := 1000000) only [VT, jf, jg, jZ, ja, jd, je, VC, qA, qB, qC, qD, qE, qF, qG, qH, qI, qJ, qK, qL, qM, qN, qO, qP, qQ, qR, qS, qT, qU, qV, qW, qX, qY, qZ, qe, qf, qg, qh, qj, qk, ql, qm, qn, qo, qp, qq, q0t, qu, qv, ev, qw, qy, qz, zA, zB, zC, zD, zE, zF, zG, zH, zI, zJ, TE.sv, zK, zL, zM, ↓reduceIte, reduceCtorEq, Value.oneCell', Nat.reduceEqDiff, Nat.reduceAdd, Nat.reduceLT, Nat.reduceBEq, Nat.reduceSub, Nat.reduceLeDiff, zP, zQ, zR, zS, zT, zU, zV, zW, zX, zY, zZ, za, zb, zc, zd, ze, zf, zg, zh, zi, zj, zk, zl, zm, zn, zo, zp, zq, zr, zt, zu, zw, zx, zy, zz, cE, jA, jB, hap, killE, deadOf, rwE, cD, cO, jC, jD, jE, jF, jG, jH, jI, jJ, jK, jL, jM, jN, jO, jP, jQ, jR, jS, jT, jU, jV, jW, jX, jY, hP, hk, res90, kp90, noC, a, b, c, w1, w2, w3])
    exact fin _ _ (by rw [ht, if_neg h0, if_neg h1, if_pos h2])
  have c : decide ((k : Int) < 62) = false := decide_eq_false (by omega)
  by_cases h3 : k = 62
  · have d : ((k : Int) == 62) = true := by rw [beq_iff_eq]; omega
    (refine VT_ok hctr (rs := res90) true 300 _ _ _ ?_; simp (maxSteps := 1000000) only [VT, jf, jg, jZ, ja, jd, je, VC, qA, qB, qC, qD, qE, qF, qG, qH, qI, qJ, qK, qL, qM, qN, qO, qP, qQ, qR, qS, qT, qU, qV, qW, qX, qY, qZ, qe, qf, qg, qh, qj, qk, ql, qm, qn, qo, qp, qq, q0t, qu, qv, ev, qw, qy, qz, zA, zB, zC, zD, zE, zF, zG, zH, zI, zJ, TE.sv, zK, zL, zM, ↓reduceIte, reduceCtorEq, Value.oneCell', Nat.reduceEqDiff, Nat.reduceAdd, Nat.reduceLT, Nat.reduceBEq, Nat.reduceSub, Nat.reduceLeDiff, zP, zQ, zR, zS, zT, zU, zV, zW, zX, zY, zZ, za, zb, zc, zd, ze, zf, zg, zh, zi, zj, zk, zl, zm, zn, zo, zp, zq, zr, zt, zu, zw, zx, zy, zz, cE, jA, jB, hap, killE, deadOf, rwE, cD, cO, jC, jD, jE, jF, jG, jH, jI, jJ, jK, jL, jM, jN, jO, jP, jQ, jR, jS, jT, jU, jV, jW, jX, jY, hP, hk, res90, kp90, noC, a, b, c, d])
    exact fin 43 _ (by rw [ht, if_neg h0, if_neg h1, if_neg h2, if_pos h3])
  · have d : ((k : Int) == 62) = false := by rw [beq_eq_false_iff_ne]; omega
    (refine VT_ok hctr (rs := res90) true 300 _ _ _ ?_; simp (maxSteps := 1000000) only [VT, jf, jg, jZ, ja, jd, je, VC, qA, qB, qC, qD, qE, qF, qG, qH, qI, qJ, qK, qL, qM, qN, qO, qP, qQ, qR, qS, qT, qU, qV, qW, qX, qY, qZ, qe, qf, qg, qh, qj, qk, ql, qm, qn, qo, qp, qq, q0t, qu, qv, ev, qw, qy, qz, zA, zB, zC, zD, zE, zF, zG, zH, zI, zJ, TE.sv, zK, zL, zM, ↓reduceIte, reduceCtorEq, Value.oneCell', Nat.reduceEqDiff, Nat.reduceAdd, Nat.reduceLT, Nat.reduceBEq, Nat.reduceSub, Nat.reduceLeDiff, zP, zQ, zR, zS, zT, zU, zV, zW, zX, zY, zZ, za, zb, zc, zd, ze, zf, zg, zh, zi, zj, zk, zl, zm, zn, zo, zp, zq, zr, zt, zu, zw, zx, zy, zz, cE, jA, jB, hap, killE, deadOf, rwE, cD, cO, jC, jD, jE, jF, jG, jH, jI, jJ, jK, jL, jM, jN, jO, jP, jQ, jR, jS, jT, jU, jV, jW, jX, jY, hP, hk, res90, kp90, noC, a, b, c, d])
    exact fin 47 _ (by rw [ht, if_neg h0, if_neg h1, if_neg h2, if_neg h3])
theorem numD_ib (x : UInt8) : numD x = (if Lib.indexByte b64L x < 0 then (0, false) else (Lib.indexByte b64L x, true)) := by
  have tab : ∀ n : _root_.Fin 256, numD (UInt8.ofNat n.1) = (if Lib.indexByte b64L (UInt8.ofNat n.1) < 0 then (0, false) else (Lib.indexByte b64L (UInt8.ofNat n.1), true)) := by decide +kernel
  have h := tab ⟨x.toNat, x.toNat_lt⟩
  rwa [UInt8.ofNat_toNat] at h
end Go.Proofs.YtlaagebdbcmckaaGreatDoor
