/- ConnFull, walked. Printed by gen_cfull.py. -/
import Derived.Test.YtehfcboiimdkbaaGreatDoorCClaw
import Derived.Test.YtehfcboiimdkbaaGreatDoorCCarg
import Derived.Test.YtehfcboiimdkbaaGreatDoorCSxMake
import Derived.Test.YtehfcboiimdkbaaGreatDoorCSxForget
namespace Go.Proofs.YtehfcboiimdkbaaGreatDoor
set_option linter.unusedSimpArgs false
set_option linter.unusedVariables false
set_option linter.unusedSimpArgs false
set_option linter.unusedVariables false
set_option maxHeartbeats 8000000
open Go.RowKit
set_option maxRecDepth 100000
theorem infoF : (Tryz.prog.info? 5).map (fun i => (i.zero, i.size, i.bytes)) = some (some (.int .u8 0), 1, 1) := by kernel_rfl
def xF (n : Nat) : List UInt8 := List.replicate n 120
theorem xF_len (n : Nat) : (xF n).length = n := List.length_replicate
def lfC (n j : Nat) : List SC := List.replicate j (SC.i .u8 120) ++ List.replicate (n - j) (SC.i .u8 0)
theorem lf_lay {n j : Nat} (h : j < n) : zC j [SC.i .u8 120] (lfC n j) = some (lfC n (j + 1)) := by
  have e : lfC n (j + 1) = (lfC n j).set j (.i .u8 120) := by
    unfold lfC
    rw [show n - j = (n - (j + 1)) + 1 by omega, List.replicate_succ' (n := j), List.replicate_succ (n := n - (j + 1)), List.set_append_right _ _ (by simp), List.length_replicate, Nat.sub_self, List.set_cons_zero, List.append_assoc]
    rfl
  rw [e]
  exact layN_one (by simp [lfC]; omega)
theorem lf_take (n : Nat) : zB 0 n (lfC n n) = some ((xF n).map fun b => SC.i .u8 (b.toNat : Int)) := by
  rw [takeAt_of (by simp [lfC])]
  simp [lfC, xF, List.take_of_length_le]
theorem and15 (z : Int) : ∃ N : Nat, N ≤ 32767 ∧ andZ .i64 z 32767 = (N : Int) := by
  have e : (BitVec.ofInt IntKind.i64.bits 32767).toNat = 32767 := by decide
  have h : (BitVec.ofInt IntKind.i64.bits z &&& BitVec.ofInt IntKind.i64.bits 32767).toNat ≤ 32767 := by
    rw [BitVec.toNat_and, e]; exact Nat.and_le_right
  exact ⟨_, h, IntWalk.i64_in _ (by omega)⟩
def cI (I : List UInt8) : Cn := ⟨I, [], 0, false⟩
theorem feed_I (I b : List UInt8) : cnFeed (cI I) b = (cI (I ++ b.take (min b.length (70000 - I.length))), ((min b.length (70000 - I.length) : Nat) : Int)) := by
  unfold cnFeed cI; simp
def slF (a : Option Addr) (n c i : Nat) (L : Nat) : List (Nat × SV) := [(6, .c (.i .i64 (i : Int))), (5, .c (.i .i64 (L : Int))), (4, .c (.p 0 0)), (3, .c (.b true)), (0, .c (.v (.slice a n c)))]
def slF2 (a : Option Addr) (n c i : Nat) (L N j : Nat) : List (Nat × SV) := [(9, .c (.i .i64 (j : Int))), (8, .c (.sl 1 0 N N)), (7, .c (.i .i64 (N : Int))), (6, .c (.i .i64 (i : Int))), (5, .c (.i .i64 (L : Int))), (4, .c (.p 0 0)), (3, .c (.b true)), (0, .c (.v (.slice a n c)))]
def enF (I : List UInt8) (N j : Nat) : List EN := [cnE (cI I) true, ⟨(5, 0, whole), lfC N j, true⟩]
theorem full_walk {w : World} {a : Option Addr} {n c : Nat} (hraw : RawI w a n) (hnm : n ≤ 9223372036854775807) (hE0 : EnvT w) :
    Calls Tryz.prog 7 #[.slice a n c] w fun e w' => e = .returned (.bool true) ∧ Below w.heap.size w w' := by
  refine calls_of_Run Tryz.func7 rfl kp7 (S := Non) (ρ := fun _ => reOf 0) (en := []) [.c (.v (.slice a n c))] Tryz.ntmps7 (At.nil _ _ _) (by simp [SV.wf, SC.wf]) (by simp) ?_
  intro C hC hP hk
  have hE : ∀ w', Upd C.S C.w0 w' → EnvT w' := fun w' hu => by rw [hC] at hu; exact hE0.below hu.to_below
  have hctr := clC_ok hP hE
  have hn0 : C.n0 = 0 := by rw [hC]; rfl
  have fin : ∀ en, Fin C res7 (.c (.b true)) en := fun en => Fin_ro (v := .c (.b true)) hC hres7 rfl trivial
  (refine VT_ok hctr (rs := res7) true 300 _ _ _ ?_; simp (maxSteps := 1000000) only [VT, jf, jg, jZ, ja, jd, je, VC, qA, qB, qC, qD, qE, qF, qG, qH, qI, qJ, qK, qL, qM, qN, qO, qP, qQ, qR, qS, qT, qU, qV, qW, qX, qY, qZ, qe, qf, qg, qh, qj, qk, ql, qm, qn, qo, qp, qq, q0t, qu, qv, ev, qw, qy, qz, zA, zB, zC, zD, zE, zF, zG, zH, zI, zJ, TE.sv, zK, zL, zM, ↓reduceIte, reduceCtorEq, Value.oneCell', Nat.reduceEqDiff, Nat.reduceAdd, Nat.reduceLT, Nat.reduceBEq, Nat.reduceSub, Nat.reduceLeDiff, zP, zQ, zR, zS, zT, zU, zV, zW, zX, zY, zZ, za, zb, zc, zd, ze, zf, zg, zh, zi, zj, zk, zl, zm, zn, zo, zp, zq, zr, zt, zu, zw, zx, zy, zz, cE, jA, jB, hap, killE, deadOf, rwE, cD, cO, jC, jD, jE, jF, jG, jH, jI, jJ, jK, jL, jM, jN, jO, jP, jQ, jR, jS, jT, jU, jV, jW, jX, jY, hP, hk, res7, kp7, clC, Int.toNat_natCast, Nat.mul_one, Int.le_refl, beq_self_eq_true, bne_self_eq_false, Bool.not_false, Bool.not_true])
  refine Run_new hP (by rw [hn0]; exact Nat.zero_le _) rfl (by simp) ?_
  (refine VT_ok hctr (rs := res7) true 300 _ _ _ ?_; simp (maxSteps := 1000000) only [VT, jf, jg, jZ, ja, jd, je, VC, qA, qB, qC, qD, qE, qF, qG, qH, qI, qJ, qK, qL, qM, qN, qO, qP, qQ, qR, qS, qT, qU, qV, qW, qX, qY, qZ, qe, qf, qg, qh, qj, qk, ql, qm, qn, qo, qp, qq, q0t, qu, qv, ev, qw, qy, qz, zA, zB, zC, zD, zE, zF, zG, zH, zI, zJ, TE.sv, zK, zL, zM, ↓reduceIte, reduceCtorEq, Value.oneCell', Nat.reduceEqDiff, Nat.reduceAdd, Nat.reduceLT, Nat.reduceBEq, Nat.reduceSub, Nat.reduceLeDiff, zP, zQ, zR, zS, zT, zU, zV, zW, zX, zY, zZ, za, zb, zc, zd, ze, zf, zg, zh, zi, zj, zk, zl, zm, zn, zo, zp, zq, zr, zt, zu, zw, zx, zy, zz, cE, jA, jB, hap, killE, deadOf, rwE, cD, cO, jC, jD, jE, jF, jG, jH, jI, jJ, jK, jL, jM, jN, jO, jP, jQ, jR, jS, jT, jU, jV, jW, jX, jY, hP, hk, res7, kp7, clC, Int.toNat_natCast, Nat.mul_one, Int.le_refl, beq_self_eq_true, bne_self_eq_false, Bool.not_false, Bool.not_true])
  refine ⟨ptr_und, ?_⟩
  refine Run_loopP (ι := { y : Nat × List UInt8 // y.1 ≤ 30 ∧ y.1 ≤ n ∧ y.2.length ≤ 70000 }) (fun y => slF a n c y.1.1 y.1.2.length) (fun y => [cnE (cI y.1.2) true]) (fun y => 31 - y.1.1) ⟨(0, []), by omega, by omega, by simp⟩ (sub_mk ⟨rfl, rfl, rfl, rfl, rfl, trivial⟩) rfl ?_
  rintro ⟨⟨i, I⟩, hi, hin, hI⟩ D dP dS dw dn dr dk ddf dPan dRet hX hJ
  have hPd := hP; have hkd := hk; have hctrd := hctr
  have hED : ∀ w', Upd D.S D.w0 w' → EnvT w' := by rw [dS, dw]; exact hE
  have hP : D.P = Tryz.prog := by rw [dP]; exact hPd
  have hk : D.kp = kp7 := by rw [dk]; exact hkd
  have hctr : CtrOk D clC := clC_ok hP hED
  have hS : D.S = Non := by rw [dS, hC]; rfl
  have hw0 : D.w0 = w := by rw [dw, hC]; rfl
  have hn0' : D.n0 = 0 := by rw [dn]; exact hn0
  simp only at hi hin hI
  show Run D _ _ (slF a n c i I.length) [cnE (cI I) true]
  by_cases hin2 : i < n
  rotate_left
  · have c1 : decide ((i : Int) < (n : Int)) = false := decide_eq_false (by omega)
    (refine VT_ok hctr (rs := res7) true 300 _ _ _ ?_; simp (maxSteps := 1000000) only [VT, jf, jg, jZ, ja, jd, je, VC, qA, qB, qC, qD, qE, qF, qG, qH, qI, qJ, qK, qL, qM, qN, qO, qP, qQ, qR, qS, qT, qU, qV, qW, qX, qY, qZ, qe, qf, qg, qh, qj, qk, ql, qm, qn, qo, qp, qq, q0t, qu, qv, ev, qw, qy, qz, zA, zB, zC, zD, zE, zF, zG, zH, zI, zJ, TE.sv, zK, zL, zM, ↓reduceIte, reduceCtorEq, Value.oneCell', Nat.reduceEqDiff, Nat.reduceAdd, Nat.reduceLT, Nat.reduceBEq, Nat.reduceSub, Nat.reduceLeDiff, zP, zQ, zR, zS, zT, zU, zV, zW, zX, zY, zZ, za, zb, zc, zd, ze, zf, zg, zh, zi, zj, zk, zl, zm, zn, zo, zp, zq, zr, zt, zu, zw, zx, zy, zz, cE, jA, jB, hap, killE, deadOf, rwE, cD, cO, jC, jD, jE, jF, jG, jH, jI, jJ, jK, jL, jM, jN, jO, jP, jQ, jR, jS, jT, jU, jV, jW, jX, jY, hP, hk, res7, kp7, clC, Int.toNat_natCast, Nat.mul_one, Int.le_refl, beq_self_eq_true, bne_self_eq_false, Bool.not_false, Bool.not_true, slF, c1])
    refine hX rfl rfl ?_
    have hP := hPd; have hk := hkd; have hctr := hctrd
    (refine VT_ok hctr (rs := res7) true 300 _ _ _ ?_; simp (maxSteps := 1000000) only [VT, jf, jg, jZ, ja, jd, je, VC, qA, qB, qC, qD, qE, qF, qG, qH, qI, qJ, qK, qL, qM, qN, qO, qP, qQ, qR, qS, qT, qU, qV, qW, qX, qY, qZ, qe, qf, qg, qh, qj, qk, ql, qm, qn, qo, qp, qq, q0t, qu, qv, ev, qw, qy, qz, zA, zB, zC, zD, zE, zF, zG, zH, zI, zJ, TE.sv, zK, zL, zM, ↓reduceIte, reduceCtorEq, Value.oneCell', Nat.reduceEqDiff, Nat.reduceAdd, Nat.reduceLT, Nat.reduceBEq, Nat.reduceSub, Nat.reduceLeDiff, zP, zQ, zR, zS, zT, zU, zV, zW, zX, zY, zZ, za, zb, zc, zd, ze, zf, zg, zh, zi, zj, zk, zl, zm, zn, zo, zp, zq, zr, zt, zu, zw, zx, zy, zz, cE, jA, jB, hap, killE, deadOf, rwE, cD, cO, jC, jD, jE, jF, jG, jH, jI, jJ, jK, jL, jM, jN, jO, jP, jQ, jR, jS, jT, jU, jV, jW, jX, jY, hP, hk, res7, kp7, clC, Int.toNat_natCast, Nat.mul_one, Int.le_refl, beq_self_eq_true, bne_self_eq_false, Bool.not_false, Bool.not_true, slF, c1])
    exact fin _
  have c1 : decide ((i : Int) < (n : Int)) = true := decide_eq_true (by omega)
  by_cases hi2 : i < 30
  rotate_left
  · have c2 : decide ((i : Int) < 30) = false := decide_eq_false (by omega)
    (refine VT_ok hctr (rs := res7) true 300 _ _ _ ?_; simp (maxSteps := 1000000) only [VT, jf, jg, jZ, ja, jd, je, VC, qA, qB, qC, qD, qE, qF, qG, qH, qI, qJ, qK, qL, qM, qN, qO, qP, qQ, qR, qS, qT, qU, qV, qW, qX, qY, qZ, qe, qf, qg, qh, qj, qk, ql, qm, qn, qo, qp, qq, q0t, qu, qv, ev, qw, qy, qz, zA, zB, zC, zD, zE, zF, zG, zH, zI, zJ, TE.sv, zK, zL, zM, ↓reduceIte, reduceCtorEq, Value.oneCell', Nat.reduceEqDiff, Nat.reduceAdd, Nat.reduceLT, Nat.reduceBEq, Nat.reduceSub, Nat.reduceLeDiff, zP, zQ, zR, zS, zT, zU, zV, zW, zX, zY, zZ, za, zb, zc, zd, ze, zf, zg, zh, zi, zj, zk, zl, zm, zn, zo, zp, zq, zr, zt, zu, zw, zx, zy, zz, cE, jA, jB, hap, killE, deadOf, rwE, cD, cO, jC, jD, jE, jF, jG, jH, jI, jJ, jK, jL, jM, jN, jO, jP, jQ, jR, jS, jT, jU, jV, jW, jX, jY, hP, hk, res7, kp7, clC, Int.toNat_natCast, Nat.mul_one, Int.le_refl, beq_self_eq_true, bne_self_eq_false, Bool.not_false, Bool.not_true, slF, c1, c2])
    refine hX rfl rfl ?_
    have hP := hPd; have hk := hkd; have hctr := hctrd
    (refine VT_ok hctr (rs := res7) true 300 _ _ _ ?_; simp (maxSteps := 1000000) only [VT, jf, jg, jZ, ja, jd, je, VC, qA, qB, qC, qD, qE, qF, qG, qH, qI, qJ, qK, qL, qM, qN, qO, qP, qQ, qR, qS, qT, qU, qV, qW, qX, qY, qZ, qe, qf, qg, qh, qj, qk, ql, qm, qn, qo, qp, qq, q0t, qu, qv, ev, qw, qy, qz, zA, zB, zC, zD, zE, zF, zG, zH, zI, zJ, TE.sv, zK, zL, zM, ↓reduceIte, reduceCtorEq, Value.oneCell', Nat.reduceEqDiff, Nat.reduceAdd, Nat.reduceLT, Nat.reduceBEq, Nat.reduceSub, Nat.reduceLeDiff, zP, zQ, zR, zS, zT, zU, zV, zW, zX, zY, zZ, za, zb, zc, zd, ze, zf, zg, zh, zi, zj, zk, zl, zm, zn, zo, zp, zq, zr, zt, zu, zw, zx, zy, zz, cE, jA, jB, hap, killE, deadOf, rwE, cD, cO, jC, jD, jE, jF, jG, jH, jI, jJ, jK, jL, jM, jN, jO, jP, jQ, jR, jS, jT, jU, jV, jW, jX, jY, hP, hk, res7, kp7, clC, Int.toNat_natCast, Nat.mul_one, Int.le_refl, beq_self_eq_true, bne_self_eq_false, Bool.not_false, Bool.not_true, slF, c1])
    exact fin _
  have c2 : decide ((i : Int) < 30) = true := decide_eq_true (by omega)
  obtain ⟨b, ofs, z, ha, r1⟩ := hraw.rd (D := D) hS hw0 hin2
  subst ha
  obtain ⟨N, hN, hz⟩ := and15 z
  have p0 : (0 : Int) ≤ (i : Int) := by omega
  have p1 : (i : Int) < (n : Int) := by omega
  have p3 : IntKind.i64.wrap ((i : Int) + 1) = ((i + 1 : Nat) : Int) := by rw [IntWalk.i64_in _ (by omega)]; rfl
  (refine VT_ok hctr (rs := res7) true 300 _ _ _ ?_; simp (maxSteps := 1000000) only [VT, jf, jg, jZ, ja, jd, je, VC, qA, qB, qC, qD, qE, qF, qG, qH, qI, qJ, qK, qL, qM, qN, qO, qP, qQ, qR, qS, qT, qU, qV, qW, qX, qY, qZ, qe, qf, qg, qh, qj, qk, ql, qm, qn, qo, qp, qq, q0t, qu, qv, ev, qw, qy, qz, zA, zB, zC, zD, zE, zF, zG, zH, zI, zJ, TE.sv, zK, zL, zM, ↓reduceIte, reduceCtorEq, Value.oneCell', Nat.reduceEqDiff, Nat.reduceAdd, Nat.reduceLT, Nat.reduceBEq, Nat.reduceSub, Nat.reduceLeDiff, zP, zQ, zR, zS, zT, zU, zV, zW, zX, zY, zZ, za, zb, zc, zd, ze, zf, zg, zh, zi, zj, zk, zl, zm, zn, zo, zp, zq, zr, zt, zu, zw, zx, zy, zz, cE, jA, jB, hap, killE, deadOf, rwE, cD, cO, jC, jD, jE, jF, jG, jH, jI, jJ, jK, jL, jM, jN, jO, jP, jQ, jR, jS, jT, jU, jV, jW, jX, jY, hP, hk, res7, kp7, clC, Int.toNat_natCast, Nat.mul_one, Int.le_refl, beq_self_eq_true, bne_self_eq_false, Bool.not_false, Bool.not_true, slF, c1, c2, r1, p0, p1, hz])
  obtain ⟨i0, hi', hz0, hz1, hz2⟩ := info_parts infoF
  refine make_op (t := 33) (e := 5) (n := N) (bts := 1) (z := .i .u8 0) (by rw [hP]; exact Tryz.underlying33) (by rw [hP]; exact hi') hz0 hz1 hz2 rfl (fun _ => rfl) (fun _ => trivial) (by show ¬ (5 : Nat) = DEAD; decide) rfl rfl (by omega) (by omega) rfl (by simp) ?_
  (refine VT_ok hctr (rs := res7) true 300 _ _ _ ?_; simp (maxSteps := 1000000) only [VT, jf, jg, jZ, ja, jd, je, VC, qA, qB, qC, qD, qE, qF, qG, qH, qI, qJ, qK, qL, qM, qN, qO, qP, qQ, qR, qS, qT, qU, qV, qW, qX, qY, qZ, qe, qf, qg, qh, qj, qk, ql, qm, qn, qo, qp, qq, q0t, qu, qv, ev, qw, qy, qz, zA, zB, zC, zD, zE, zF, zG, zH, zI, zJ, TE.sv, zK, zL, zM, ↓reduceIte, reduceCtorEq, Value.oneCell', Nat.reduceEqDiff, Nat.reduceAdd, Nat.reduceLT, Nat.reduceBEq, Nat.reduceSub, Nat.reduceLeDiff, zP, zQ, zR, zS, zT, zU, zV, zW, zX, zY, zZ, za, zb, zc, zd, ze, zf, zg, zh, zi, zj, zk, zl, zm, zn, zo, zp, zq, zr, zt, zu, zw, zx, zy, zz, cE, jA, jB, hap, killE, deadOf, rwE, cD, cO, jC, jD, jE, jF, jG, jH, jI, jJ, jK, jL, jM, jN, jO, jP, jQ, jR, jS, jT, jU, jV, jW, jX, jY, hP, hk, res7, kp7, clC, Int.toNat_natCast, Nat.mul_one, Int.le_refl, beq_self_eq_true, bne_self_eq_false, Bool.not_false, Bool.not_true])
  refine Run_loopP (ι := { j : Nat // j ≤ N }) (fun j => slF2 (some ⟨b, ofs, none⟩) n c i I.length N j.1) (fun j => enF I N j.1) (fun j => N - j.1) ⟨0, Nat.zero_le _⟩ (sub_mk ⟨rfl, rfl, rfl, rfl, rfl, rfl, rfl, rfl, trivial⟩) rfl ?_
  rintro ⟨j, hj⟩ E eP eS ew en er ek edf ePan eRet hX2 hJ2
  have hPe := hP; have hke := hk; have hctre := hctr
  have hEE : ∀ w', Upd E.S E.w0 w' → EnvT w' := by rw [eS, ew]; exact hED
  have hP : E.P = Tryz.prog := by rw [eP]; exact hPe
  have hk : E.kp = kp7 := by rw [ek]; exact hke
  have hctr : CtrOk E clC := clC_ok hP hEE
  show Run E _ _ (slF2 (some ⟨b, ofs, none⟩) n c i I.length N j) (enF I N j)
  by_cases hjn : j < N
  · have c3 : decide ((j : Int) < (N : Int)) = true := decide_eq_true (by omega)
    have p4 : IntKind.i64.wrap ((j : Int) + 1) = ((j + 1 : Nat) : Int) := by rw [IntWalk.i64_in _ (by omega)]; rfl
    have p5 : (0 : Int) ≤ (j : Int) := by omega
    have p6 : (j : Int) < ((N : Nat) : Int) := by omega
    have hly := lf_lay hjn
    (refine VT_ok hctr (rs := res7) true 300 _ _ _ ?_; simp (maxSteps := 1000000) only [VT, jf, jg, jZ, ja, jd, je, VC, qA, qB, qC, qD, qE, qF, qG, qH, qI, qJ, qK, qL, qM, qN, qO, qP, qQ, qR, qS, qT, qU, qV, qW, qX, qY, qZ, qe, qf, qg, qh, qj, qk, ql, qm, qn, qo, qp, qq, q0t, qu, qv, ev, qw, qy, qz, zA, zB, zC, zD, zE, zF, zG, zH, zI, zJ, TE.sv, zK, zL, zM, ↓reduceIte, reduceCtorEq, Value.oneCell', Nat.reduceEqDiff, Nat.reduceAdd, Nat.reduceLT, Nat.reduceBEq, Nat.reduceSub, Nat.reduceLeDiff, zP, zQ, zR, zS, zT, zU, zV, zW, zX, zY, zZ, za, zb, zc, zd, ze, zf, zg, zh, zi, zj, zk, zl, zm, zn, zo, zp, zq, zr, zt, zu, zw, zx, zy, zz, cE, jA, jB, hap, killE, deadOf, rwE, cD, cO, jC, jD, jE, jF, jG, jH, jI, jJ, jK, jL, jM, jN, jO, jP, jQ, jR, jS, jT, jU, jV, jW, jX, jY, hP, hk, res7, kp7, clC, Int.toNat_natCast, Nat.mul_one, Int.le_refl, beq_self_eq_true, bne_self_eq_false, Bool.not_false, Bool.not_true, slF2, enF, c3, p4, p5, p6, hly, Nat.zero_add])
    exact hJ2 ⟨j + 1, by omega⟩ _ (by show N - (j + 1) < N - j; omega) (sub_mk ⟨rfl, rfl, rfl, rfl, rfl, rfl, rfl, rfl, trivial⟩)
  · obtain rfl : j = N := by omega
    have c3 : decide ((j : Int) < (j : Int)) = false := decide_eq_false (by omega)
    (refine VT_ok hctr (rs := res7) true 300 _ _ _ ?_; simp (maxSteps := 1000000) only [VT, jf, jg, jZ, ja, jd, je, VC, qA, qB, qC, qD, qE, qF, qG, qH, qI, qJ, qK, qL, qM, qN, qO, qP, qQ, qR, qS, qT, qU, qV, qW, qX, qY, qZ, qe, qf, qg, qh, qj, qk, ql, qm, qn, qo, qp, qq, q0t, qu, qv, ev, qw, qy, qz, zA, zB, zC, zD, zE, zF, zG, zH, zI, zJ, TE.sv, zK, zL, zM, ↓reduceIte, reduceCtorEq, Value.oneCell', Nat.reduceEqDiff, Nat.reduceAdd, Nat.reduceLT, Nat.reduceBEq, Nat.reduceSub, Nat.reduceLeDiff, zP, zQ, zR, zS, zT, zU, zV, zW, zX, zY, zZ, za, zb, zc, zd, ze, zf, zg, zh, zi, zj, zk, zl, zm, zn, zo, zp, zq, zr, zt, zu, zw, zx, zy, zz, cE, jA, jB, hap, killE, deadOf, rwE, cD, cO, jC, jD, jE, jF, jG, jH, jI, jJ, jK, jL, jM, jN, jO, jP, jQ, jR, jS, jT, jU, jV, jW, jX, jY, hP, hk, res7, kp7, clC, Int.toNat_natCast, Nat.mul_one, Int.le_refl, beq_self_eq_true, bne_self_eq_false, Bool.not_false, Bool.not_true, slF2, c3])
    refine hX2 rfl rfl ?_
    have hP := hPe; have hk := hke; have hctr := hctre
    obtain ⟨m, hm⟩ : ∃ m, min j (70000 - I.length) = m := ⟨_, rfl⟩
    have f1 : IntKind.i64.wrap (70000 - (I.length : Int)) = 70000 - (I.length : Int) := IntWalk.i64_in _ (by omega)
    have f2 : (if 70000 - (I.length : Int) < (j : Int) then 70000 - (I.length : Int) else (j : Int)) = (m : Int) := by split <;> omega
    have f3 : IntKind.i64.wrap ((I.length : Int) + (m : Int)) = ((I.length + m : Nat) : Int) := by rw [IntWalk.i64_in _ (by omega)]; rfl
    (refine VT_ok hctr (rs := res7) true 300 _ _ _ ?_; simp (maxSteps := 1000000) only [VT, jf, jg, jZ, ja, jd, je, VC, qA, qB, qC, qD, qE, qF, qG, qH, qI, qJ, qK, qL, qM, qN, qO, qP, qQ, qR, qS, qT, qU, qV, qW, qX, qY, qZ, qe, qf, qg, qh, qj, qk, ql, qm, qn, qo, qp, qq, q0t, qu, qv, ev, qw, qy, qz, zA, zB, zC, zD, zE, zF, zG, zH, zI, zJ, TE.sv, zK, zL, zM, ↓reduceIte, reduceCtorEq, Value.oneCell', Nat.reduceEqDiff, Nat.reduceAdd, Nat.reduceLT, Nat.reduceBEq, Nat.reduceSub, Nat.reduceLeDiff, zP, zQ, zR, zS, zT, zU, zV, zW, zX, zY, zZ, za, zb, zc, zd, ze, zf, zg, zh, zi, zj, zk, zl, zm, zn, zo, zp, zq, zr, zt, zu, zw, zx, zy, zz, cE, jA, jB, hap, killE, deadOf, rwE, cD, cO, jC, jD, jE, jF, jG, jH, jI, jJ, jK, jL, jM, jN, jO, jP, jQ, jR, jS, jT, jU, jV, jW, jX, jY, hP, hk, res7, kp7, clC, Int.toNat_natCast, Nat.mul_one, Int.le_refl, beq_self_eq_true, bne_self_eq_false, Bool.not_false, Bool.not_true, slF2, enF, f1, f2])
    have hbs : SrcOk D (enF I j j) (.sl 1 0 j j) (xF j).length ((xF j).map fun b => SC.i .u8 (b.toNat : Int)) := by
      rw [xF_len]
      exact src_sl (L := j) rfl (lf_take j)
    refine bytes_op (bs := xF j) (s := 33) (e := 5) (X := .sl 1 0 j j) (by rw [hP]; exact Tryz.underlying33) (by rw [hP]; exact Tryz.underlying9) (by rw [hP]; exact Tryz.underlying5) rfl hbs rfl (by simp) ?_
    (refine VT_ok hctr (rs := res7) true 300 _ _ _ ?_; simp (maxSteps := 1000000) only [VT, jf, jg, jZ, ja, jd, je, VC, qA, qB, qC, qD, qE, qF, qG, qH, qI, qJ, qK, qL, qM, qN, qO, qP, qQ, qR, qS, qT, qU, qV, qW, qX, qY, qZ, qe, qf, qg, qh, qj, qk, ql, qm, qn, qo, qp, qq, q0t, qu, qv, ev, qw, qy, qz, zA, zB, zC, zD, zE, zF, zG, zH, zI, zJ, TE.sv, zK, zL, zM, ↓reduceIte, reduceCtorEq, Value.oneCell', Nat.reduceEqDiff, Nat.reduceAdd, Nat.reduceLT, Nat.reduceBEq, Nat.reduceSub, Nat.reduceLeDiff, zP, zQ, zR, zS, zT, zU, zV, zW, zX, zY, zZ, za, zb, zc, zd, ze, zf, zg, zh, zi, zj, zk, zl, zm, zn, zo, zp, zq, zr, zt, zu, zw, zx, zy, zz, cE, jA, jB, hap, killE, deadOf, rwE, cD, cO, jC, jD, jE, jF, jG, jH, jI, jJ, jK, jL, jM, jN, jO, jP, jQ, jR, jS, jT, jU, jV, jW, jX, jY, hP, hk, res7, kp7, clC, Int.toNat_natCast, Nat.mul_one, Int.le_refl, beq_self_eq_true, bne_self_eq_false, Bool.not_false, Bool.not_true, f1, f2])
    have hfd : cnFeed (cI I) (xF j) = (cI (I ++ (xF j).take m), (m : Int)) := by rw [feed_I, xF_len, hm]
    have okI : CnOk (cI I) := ⟨hI, Nat.zero_le _, Int.le_refl _, by show (0 : Int) ≤ _; decide⟩
    refine Run_cn (N := 0) (c := (cI I)) (cI (I ++ (xF j).take m)) (ys := [.c (.s (xF j))]) (.c (.i .i64 (m : Int))) rfl hP rfl (by simp [zG]) (fun args w => Tryz.call11 args w) (fun pr => by simp [SV.wf, SC.wf, TE.wf]) (fun ρ w g h => by have := feed_w okI (xF j) (by rw [xF_len]; omega) h; rw [hfd] at this; exact this) rfl (by simp) ?_
    (refine VT_ok hctr (rs := res7) true 300 _ _ _ ?_; simp (maxSteps := 1000000) only [VT, jf, jg, jZ, ja, jd, je, VC, qA, qB, qC, qD, qE, qF, qG, qH, qI, qJ, qK, qL, qM, qN, qO, qP, qQ, qR, qS, qT, qU, qV, qW, qX, qY, qZ, qe, qf, qg, qh, qj, qk, ql, qm, qn, qo, qp, qq, q0t, qu, qv, ev, qw, qy, qz, zA, zB, zC, zD, zE, zF, zG, zH, zI, zJ, TE.sv, zK, zL, zM, ↓reduceIte, reduceCtorEq, Value.oneCell', Nat.reduceEqDiff, Nat.reduceAdd, Nat.reduceLT, Nat.reduceBEq, Nat.reduceSub, Nat.reduceLeDiff, zP, zQ, zR, zS, zT, zU, zV, zW, zX, zY, zZ, za, zb, zc, zd, ze, zf, zg, zh, zi, zj, zk, zl, zm, zn, zo, zp, zq, zr, zt, zu, zw, zx, zy, zz, cE, jA, jB, hap, killE, deadOf, rwE, cD, cO, jC, jD, jE, jF, jG, jH, jI, jJ, jK, jL, jM, jN, jO, jP, jQ, jR, jS, jT, jU, jV, jW, jX, jY, hP, hk, res7, kp7, clC, Int.toNat_natCast, Nat.mul_one, Int.le_refl, beq_self_eq_true, bne_self_eq_false, Bool.not_false, Bool.not_true, f3])
    have e1 : (I ++ (xF j).take m).length = I.length + m := by rw [List.length_append, List.length_take, xF_len]; omega
    refine Run_cn (N := 0) (c := (cI (I ++ (xF j).take m))) (cI (I ++ (xF j).take m)) (ys := []) (.t [.c (.i .i64 ((I.length + m : Nat) : Int)), .c (.i .i64 0)]) rfl hP rfl (by simp [zG]) (fun args w => Tryz.call18 args w) (fun pr => by simp [SV.wf, SC.wf, TE.wf]) (fun ρ w g h => by have := sizes_w h; have e2 : (cI (I ++ (xF j).take m)).inp.length = I.length + m := e1; rw [e2] at this; exact this) rfl (by simp) ?_
    (refine VT_ok hctr (rs := res7) true 300 _ _ _ ?_; simp (maxSteps := 1000000) only [VT, jf, jg, jZ, ja, jd, je, VC, qA, qB, qC, qD, qE, qF, qG, qH, qI, qJ, qK, qL, qM, qN, qO, qP, qQ, qR, qS, qT, qU, qV, qW, qX, qY, qZ, qe, qf, qg, qh, qj, qk, ql, qm, qn, qo, qp, qq, q0t, qu, qv, ev, qw, qy, qz, zA, zB, zC, zD, zE, zF, zG, zH, zI, zJ, TE.sv, zK, zL, zM, ↓reduceIte, reduceCtorEq, Value.oneCell', Nat.reduceEqDiff, Nat.reduceAdd, Nat.reduceLT, Nat.reduceBEq, Nat.reduceSub, Nat.reduceLeDiff, zP, zQ, zR, zS, zT, zU, zV, zW, zX, zY, zZ, za, zb, zc, zd, ze, zf, zg, zh, zi, zj, zk, zl, zm, zn, zo, zp, zq, zr, zt, zu, zw, zx, zy, zz, cE, jA, jB, hap, killE, deadOf, rwE, cD, cO, jC, jD, jE, jF, jG, jH, jI, jJ, jK, jL, jM, jN, jO, jP, jQ, jR, jS, jT, jU, jV, jW, jX, jY, hP, hk, res7, kp7, clC, Int.toNat_natCast, Nat.mul_one, Int.le_refl, beq_self_eq_true, bne_self_eq_false, Bool.not_false, Bool.not_true, p3])
    refine Run_forget (sl' := slF (some ⟨b, ofs, none⟩) n c (i + 1) (I.length + m)) [cnE (cI (I ++ (xF j).take m)) true] [⟨(5, 0, whole), lfC j j, true⟩] rfl (by rw [hn0']; exact Nat.zero_le _) (fun e he => by simp only [List.mem_cons, List.not_mem_nil, or_false] at he; subst he; exact cn_wf _ _) (sub_mk ⟨rfl, rfl, rfl, rfl, rfl, trivial⟩) (fun x hx => by simp only [slF, List.mem_cons, List.not_mem_nil, or_false] at hx; rcases hx with rfl | rfl | rfl | rfl | rfl <;> first | trivial | (show 0 < 1; decide)) ?_
    refine hJ ⟨(i + 1, I ++ (xF j).take m), by simp only; omega, by simp only; omega, by simp only; omega⟩ _ (by simp only; omega) (sub_mk ⟨rfl, ?_, rfl, rfl, rfl, trivial⟩)
    simp only
    rw [e1]; rfl
end Go.Proofs.YtehfcboiimdkbaaGreatDoor
