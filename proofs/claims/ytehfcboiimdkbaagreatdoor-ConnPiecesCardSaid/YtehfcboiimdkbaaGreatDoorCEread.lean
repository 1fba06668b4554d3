/- meta.read, walked. Printed by gen_eread.py. -/
import Derived.Test.YtehfcboiimdkbaaGreatDoorCEmq
import Derived.Test.YtehfcboiimdkbaaGreatDoorBM
namespace Go.Proofs.YtehfcboiimdkbaaGreatDoor
set_option linter.unusedSimpArgs false
set_option linter.unusedVariables false
set_option linter.unusedSimpArgs false
set_option linter.unusedVariables false
set_option maxHeartbeats 8000000
open Go.RowKit
set_option maxRecDepth 100000
def rq1 (name word : List UInt8) : Mq := ⟨1, [], false, [], 0, false, name, [], word⟩
def rqE (name word : List UInt8) : EN := ⟨(30, 0, whole), mqS noS noS (rq1 name word), true⟩
def slRead (b o n cap size : Nat) (al behind : List UInt8) : List (Nat × SV) := [(11, .c (.i .i64 (size : Int))), (8, .c (.v (.slice (some ⟨b, o, none⟩) n cap))), (10, .c (.s al)), (9, .c (.p 1 0)), (4, .c (.p 0 0)), (1, .c (.s behind))]
def slRead2 (b o n cap size : Nat) (behind wr : List UInt8) (kok qt : Bool) : List (Nat × SV) := [(17, .c (.b kok)), (16, .c (.b qt)), (14, .c (.s wr)), (11, .c (.i .i64 (size : Int))), (8, .c (.v (.slice (some ⟨b, o, none⟩) n cap))), (9, .c (.p 1 0)), (4, .c (.p 0 0)), (1, .c (.s behind))]
def slRead3 (b o n cap size : Nat) (qt : Bool) : List (Nat × SV) := [(16, .c (.b qt)), (11, .c (.i .i64 (size : Int))), (8, .c (.v (.slice (some ⟨b, o, none⟩) n cap))), (9, .c (.p 1 0)), (4, .c (.p 0 0))]
def rdQ (name : List UInt8) (rest : List (List UInt8)) (x : Mq × Int × Bool) : Mq := if x.2.2 then rq1 name (rest.headD []) else x.1
def ReadP (w : World) (r0 : Mq) (x : Mq × Int × Bool) (e : Ending) (w' : World) : Prop := Below w.heap.size w w' ∧ ∃ v, e = .returned (.tuple #[v, .int .i64 x.2.1, .bool x.2.2]) ∧ MqV w.heap.size w' v r0
theorem infoStr : (Tryz.prog.info? 9).map (fun i => (i.zero, i.size, i.bytes)) = some (some (.string ⟨#[]⟩), 1, 16) := by kernel_rfl
theorem ones_st : ∀ ws : List (List UInt8), qu (ws.map SC.s) = true
  | [] => rfl
  | x :: ws => by simp only [List.map_cons, qu, q0t, cond_true]; exact ones_st ws
theorem setM_val (c : Cd) (x : UInt8) (s : List UInt8) : (setM c x s).1.val = c.val := by
  unfold setM modeM
  repeat' split
  all_goals rfl
theorem allM_val (al : List UInt8) : ∀ (ws : List (List UInt8)) (c : Cd) (seen : List UInt8), (allM al ws c seen).1.val = c.val
  | [], _, _ => rfl
  | [] :: _, _, _ => rfl
  | (x :: s) :: l, c, seen => by
    rw [allM]
    split
    · rfl
    · split
      · rfl
      · split
        · rw [allM_val al l, setM_val]
        · exact setM_val c x s
theorem kindM_val (name : List UInt8) : (kindM name).1.val = [] := by
  unfold kindM
  repeat' split
  all_goals rfl
theorem dec_le (s : List UInt8) : ((decB s).getD []).length ≤ s.length := by
  cases h : decB s with
  | none => exact Nat.zero_le _
  | some t =>
    have h1 := encB_len t
    have h2 := (decB_iff s t).1 h
    rw [← h2] at h1
    show t.length ≤ _
    omega
theorem cut_suf {b : List UInt8} {n : Nat} (h : n + 2 ≤ b.length) : Lib.hasSuffix (b.take (n + 2)) [13, 10] = ((b.take (n + 2)).drop n == [13, 10]) ∧ (Lib.hasSuffix (b.take (n + 2)) [13, 10] = true → Lib.trimSuffix (b.take (n + 2)) [13, 10] = b.take n) := by
  have hl : (b.take (n + 2)).length = n + 2 := by rw [List.length_take]; omega
  constructor
  · rw [Bool.eq_iff_iff, beq_iff_eq]
    show ([13, 10] : List UInt8).isSuffixOf _ = true ↔ _
    rw [List.isSuffixOf_iff_suffix, List.suffix_iff_eq_drop, hl]
    exact ⟨fun h => h.symm, fun h => h.symm⟩
  · intro hs
    unfold Lib.trimSuffix
    rw [if_pos hs, hl, List.take_take, Nat.min_eq_left (by simp)]
    simp
theorem read_w {w : World} (hE0 : Env w) {a : Option Addr} {n cap : Nat} {name : List UInt8} {rest : List (List UInt8)} (hraw : RawT w a (name :: rest)) (hn : n = rest.length + 1) (hnc : n ≤ cap) (hcap : cap ≤ maxLen) (hl : ∀ x ∈ name :: rest, x ≠ [] ∧ x.length ≤ 5000) (hlen : n ≤ 5000) (behind : List UInt8) (hb : behind.length ≤ 9223372036854775807) :
    Calls Tryz.prog 38 #[.slice a n cap, .string ⟨behind.toArray⟩] w (ReadP w (rdQ name rest (readM name rest behind)) (readM name rest behind)) := by
  refine calls_of_Run Tryz.func38 rfl kp38 (S := Non) (ρ := fun _ => reOf 0) (en := []) [.c (.v (.slice a n cap)), .c (.s behind)] Tryz.ntmps38 (At.nil _ _ _) (by simp [SV.wf, SC.wf]) (by simp) ?_
  intro C hC hP hk
  have hE : EnvC C := fun w' hu => by rw [hC] at hu; exact hE0.below hu.to_below
  have hctr := eR_ok hP hE
  have hS : C.S = Non := by rw [hC]; rfl
  have hw0 : C.w0 = w := by rw [hC]; rfl
  have hn0 : C.n0 = 0 := by rw [hC]; rfl
  unfold maxLen at hcap
  obtain ⟨b, o, ha, r0⟩ := hraw.rd (D := C) hS hw0 (k := 0) (x := name) rfl
  subst ha
  have r0 : C.rd b o 1 = some [.s name] := r0
  obtain ⟨oo, hoo⟩ : ∃ oo, (if cap = 1 then o else o + 1) = oo := ⟨_, rfl⟩
  have q1 : (0 : Int) ≤ 1 := by decide
  have q2 : (1 : Int) ≤ (n : Int) := by omega
  have q3 : (n : Int) ≤ (cap : Int) := by omega
  have q4 : (0 : Int) < (n : Int) := by omega
  have q5 : (0 : Int) ≤ 0 := by decide
  obtain ⟨m1, hm1⟩ : ∃ m1, n - 1 = m1 := ⟨_, rfl⟩
  have fin0 : ∀ (r : Mq) (sk : Int) (en : List EN), readM name rest behind = (r, sk, false) → r.cmds = [] → r.flags = [] → Fin C res38 (.t [.g (mqS noS noS r), .c (.i .i64 sk), .c (.b false)]) en := fun r sk en h1 h2 h3 => by
    refine Fin_cx (v := .t [.g (mqS noS noS r), .c (.i .i64 sk), .c (.b false)]) hC hres38 fun ρ w' hw _ _ => ?_
    have hup := hw.up
    rw [hC] at hup
    rw [h1]
    exact ⟨hup.to_below, _, rfl, MqV.none h2 h3⟩
  cases rest with
  | nil =>
    obtain rfl : m1 = 0 := by rw [← hm1, hn]; rfl
    have c0 : (((0 : Nat) : Int) == 0) = true := rfl
    (refine VT_ok hctr (rs := res38) true 300 _ _ _ ?_; simp (maxSteps := 1000000) only [VT, jf, jg, jZ, ja, jd, je, VC, qA, qB, qC, qD, qE, qF, qG, qH, qI, qJ, qK, qL, qM, qN, qO, qP, qQ, qR, qS, qT, qU, qV, qW, qX, qY, qZ, qe, qf, qg, qh, qj, qk, ql, qm, qn, qo, qp, qq, q0t, qu, qv, ev, qw, qy, qz, zA, zB, zC, zD, zE, zF, zG, zH, zI, zJ, TE.sv, zK, zL, zM, ↓reduceIte, reduceCtorEq, Value.oneCell', Nat.reduceEqDiff, Nat.reduceAdd, Nat.reduceLT, Nat.reduceBEq, Nat.reduceSub, Nat.reduceLeDiff, zP, zQ, zR, zS, zT, zU, zV, zW, zX, zY, zZ, za, zb, zc, zd, ze, zf, zg, zh, zi, zj, zk, zl, zm, zn, zo, zp, zq, zr, zt, zu, zw, zx, zy, zz, cE, jA, jB, hap, killE, deadOf, rwE, cD, cO, jC, jD, jE, jF, jG, jH, jI, jJ, jK, jL, jM, jN, jO, jP, jQ, jR, jS, jT, jU, jV, jW, jX, jY, hP, hk, res38, kp38, eR, tC0, ecS, rowMBad, rowKind, rowDec, rowCutSuf, rowParse, rowKeyB, mqS, noS, badM, Int.toNat_natCast, Int.toNat_zero, Int.toNat_one, Nat.mul_one, Nat.zero_mul, Nat.add_zero, Nat.sub_zero, Int.le_refl, Nat.reduceMul])
    (refine Run_drawD hctr (by rw [hP]; rfl) rs38_1 [] (ensure_type_of% (Cmp.of (by simp (maxSteps := 1000000) only [VC, qA, qB, qC, qD, qE, qF, qG, qH, qI, qJ, qK, qL, qM, qN, qO, qP, qQ, qR, qS, qT, qU, qV, qW, qX, qY, qZ, qe, qf, qg, qh, qj, qk, ql, qm, qn, qo, qp, qq, q0t, qu, qv, ev, qw, qy, qz, zA, zB, zC, zD, zE, zF, zG, zH, zI, zJ, TE.sv, zK, zL, zM, ↓reduceIte, reduceCtorEq, Value.oneCell', Nat.reduceEqDiff, Nat.reduceAdd, Nat.reduceLT, Nat.reduceBEq, Nat.reduceSub, Nat.reduceLeDiff, zP, zQ, zR, zS, zT, zU, zV, zW, zX, zY, zZ, za, zb, zc, zd, ze, zf, zg, zh, zi, zj, zk, zl, zm, zn, zo, zp, zq, zr, zt, zu, zw, zx, zy, zz, cE, jA, jB, hap, killE, deadOf, rwE, cD, cO, jC, jD, jE, jF, jG, jH, jI, jJ, jK, jL, jM, jN, jO, jP, jQ, jR, jS, jT, jU, jV, jW, jX, jY, hP, eR, tC0, ecS, rowMBad, rowKind, rowDec, rowCutSuf, rowParse, rowKeyB, mqS, noS, badM, Int.toNat_natCast, Int.toNat_zero, Int.toNat_one, Nat.mul_one, Nat.zero_mul, Nat.add_zero, Nat.sub_zero, Int.le_refl, Nat.reduceMul, r0, hoo, q1, q2, q3, q4, q5, hm1, c0]; rfl)) "" Cmp.mk) (by kernel_rfl) (by kernel_rfl) (by first | exact lenB_one _ | kernel_rfl) (by kernel_rfl) (by rfl) (by rfl) (by first | exact firstN_self _ | rfl) (by rfl) (by simp (maxSteps := 1000000) only [VC, qA, qB, qC, qD, qE, qF, qG, qH, qI, qJ, qK, qL, qM, qN, qO, qP, qQ, qR, qS, qT, qU, qV, qW, qX, qY, qZ, qe, qf, qg, qh, qj, qk, ql, qm, qn, qo, qp, qq, q0t, qu, qv, ev, qw, qy, qz, zA, zB, zC, zD, zE, zF, zG, zH, zI, zJ, TE.sv, zK, zL, zM, ↓reduceIte, reduceCtorEq, Value.oneCell', Nat.reduceEqDiff, Nat.reduceAdd, Nat.reduceLT, Nat.reduceBEq, Nat.reduceSub, Nat.reduceLeDiff, zP, zQ, zR, zS, zT, zU, zV, zW, zX, zY, zZ, za, zb, zc, zd, ze, zf, zg, zh, zi, zj, zk, zl, zm, zn, zo, zp, zq, zr, zt, zu, zw, zx, zy, zz, cE, jA, jB, hap, killE, deadOf, rwE, cD, cO, jC, jD, jE, jF, jG, jH, jI, jJ, jK, jL, jM, jN, jO, jP, jQ, jR, jS, jT, jU, jV, jW, jX, jY, hP, eR, tC0, ecS, rowMBad, rowKind, rowDec, rowCutSuf, rowParse, rowKeyB, mqS, noS, badM, Int.toNat_natCast, Int.toNat_zero, Int.toNat_one, Nat.mul_one, Nat.zero_mul, Nat.add_zero, Nat.sub_zero, Int.le_refl, Nat.reduceMul, r0, hoo, q1, q2, q3, q4, q5, hm1, c0]) ?_; refine VT_ok hctr (rs := res38) true 300 _ _ _ ?_; simp (maxSteps := 1000000) only [VT, jf, jg, jZ, ja, jd, je, VC, qA, qB, qC, qD, qE, qF, qG, qH, qI, qJ, qK, qL, qM, qN, qO, qP, qQ, qR, qS, qT, qU, qV, qW, qX, qY, qZ, qe, qf, qg, qh, qj, qk, ql, qm, qn, qo, qp, qq, q0t, qu, qv, ev, qw, qy, qz, zA, zB, zC, zD, zE, zF, zG, zH, zI, zJ, TE.sv, zK, zL, zM, ↓reduceIte, reduceCtorEq, Value.oneCell', Nat.reduceEqDiff, Nat.reduceAdd, Nat.reduceLT, Nat.reduceBEq, Nat.reduceSub, Nat.reduceLeDiff, zP, zQ, zR, zS, zT, zU, zV, zW, zX, zY, zZ, za, zb, zc, zd, ze, zf, zg, zh, zi, zj, zk, zl, zm, zn, zo, zp, zq, zr, zt, zu, zw, zx, zy, zz, cE, jA, jB, hap, killE, deadOf, rwE, cD, cO, jC, jD, jE, jF, jG, jH, jI, jJ, jK, jL, jM, jN, jO, jP, jQ, jR, jS, jT, jU, jV, jW, jX, jY, hP, hk, res38, kp38, eR, tC0, ecS, rowMBad, rowKind, rowDec, rowCutSuf, rowParse, rowKeyB, mqS, noS, badM, Int.toNat_natCast, Int.toNat_zero, Int.toNat_one, Nat.mul_one, Nat.zero_mul, Nat.add_zero, Nat.sub_zero, Int.le_refl, Nat.reduceMul, r0, hoo, q1, q2, q3, q4, q5, hm1, c0])
    exact fin0 (badM f_format 0) 0 _ rfl rfl rfl
  | cons word l0 =>
    have hn2 : n = l0.length + 2 := by rw [hn]; rfl
    have c0 : ((m1 : Int) == 0) = false := by
      have : m1 ≠ 0 := by omega
      simpa using this
    obtain rfl : oo = o + 1 := by rw [← hoo, if_neg (by omega)]
    obtain ⟨_, _, he, r1⟩ := hraw.rd (D := C) hS hw0 (k := 1) (x := word) rfl
    cases he
    obtain ⟨cap1, hcap1⟩ : ∃ cap1, cap - 1 = cap1 := ⟨_, rfl⟩
    obtain ⟨o2, ho2⟩ : ∃ o2, (if cap1 = 1 then o + 1 else o + 1 + 1) = o2 := ⟨_, rfl⟩
    have q6 : (0 : Int) < (m1 : Int) := by omega
    have q7 : (1 : Int) ≤ (m1 : Int) := by omega
    have q8 : (m1 : Int) ≤ (cap1 : Int) := by omega
    obtain ⟨m2, hm2⟩ : ∃ m2, m1 - 1 = m2 := ⟨_, rfl⟩
    obtain ⟨cap2, hcap2⟩ : ∃ cap2, cap1 - 1 = cap2 := ⟨_, rfl⟩
    obtain ⟨kc, hkc⟩ : ∃ kc, (kindM name).1 = kc := ⟨_, rfl⟩
    obtain ⟨al, hal⟩ : ∃ al, (kindM name).2 = al := ⟨_, rfl⟩
    (refine VT_ok hctr (rs := res38) true 300 _ _ _ ?_; simp (maxSteps := 1000000) only [VT, jf, jg, jZ, ja, jd, je, VC, qA, qB, qC, qD, qE, qF, qG, qH, qI, qJ, qK, qL, qM, qN, qO, qP, qQ, qR, qS, qT, qU, qV, qW, qX, qY, qZ, qe, qf, qg, qh, qj, qk, ql, qm, qn, qo, qp, qq, q0t, qu, qv, ev, qw, qy, qz, zA, zB, zC, zD, zE, zF, zG, zH, zI, zJ, TE.sv, zK, zL, zM, ↓reduceIte, reduceCtorEq, Value.oneCell', Nat.reduceEqDiff, Nat.reduceAdd, Nat.reduceLT, Nat.reduceBEq, Nat.reduceSub, Nat.reduceLeDiff, zP, zQ, zR, zS, zT, zU, zV, zW, zX, zY, zZ, za, zb, zc, zd, ze, zf, zg, zh, zi, zj, zk, zl, zm, zn, zo, zp, zq, zr, zt, zu, zw, zx, zy, zz, cE, jA, jB, hap, killE, deadOf, rwE, cD, cO, jC, jD, jE, jF, jG, jH, jI, jJ, jK, jL, jM, jN, jO, jP, jQ, jR, jS, jT, jU, jV, jW, jX, jY, hP, hk, res38, kp38, eR, tC0, ecS, rowMBad, rowKind, rowDec, rowCutSuf, rowParse, rowKeyB, mqS, noS, badM, Int.toNat_natCast, Int.toNat_zero, Int.toNat_one, Nat.mul_one, Nat.zero_mul, Nat.add_zero, Nat.sub_zero, Int.le_refl, Nat.reduceMul])
    (refine Run_drawD hctr (by rw [hP]; rfl) rs38_1 [] (ensure_type_of% (Cmp.of (by simp (maxSteps := 1000000) only [VC, qA, qB, qC, qD, qE, qF, qG, qH, qI, qJ, qK, qL, qM, qN, qO, qP, qQ, qR, qS, qT, qU, qV, qW, qX, qY, qZ, qe, qf, qg, qh, qj, qk, ql, qm, qn, qo, qp, qq, q0t, qu, qv, ev, qw, qy, qz, zA, zB, zC, zD, zE, zF, zG, zH, zI, zJ, TE.sv, zK, zL, zM, ↓reduceIte, reduceCtorEq, Value.oneCell', Nat.reduceEqDiff, Nat.reduceAdd, Nat.reduceLT, Nat.reduceBEq, Nat.reduceSub, Nat.reduceLeDiff, zP, zQ, zR, zS, zT, zU, zV, zW, zX, zY, zZ, za, zb, zc, zd, ze, zf, zg, zh, zi, zj, zk, zl, zm, zn, zo, zp, zq, zr, zt, zu, zw, zx, zy, zz, cE, jA, jB, hap, killE, deadOf, rwE, cD, cO, jC, jD, jE, jF, jG, jH, jI, jJ, jK, jL, jM, jN, jO, jP, jQ, jR, jS, jT, jU, jV, jW, jX, jY, hP, eR, tC0, ecS, rowMBad, rowKind, rowDec, rowCutSuf, rowParse, rowKeyB, mqS, noS, badM, Int.toNat_natCast, Int.toNat_zero, Int.toNat_one, Nat.mul_one, Nat.zero_mul, Nat.add_zero, Nat.sub_zero, Int.le_refl, Nat.reduceMul, r0, r1, hoo, q1, q2, q3, q4, q5, q6, q7, q8, hm1, hm2, hcap1, hcap2, ho2, hkc, hal, c0]; rfl)) "" Cmp.mk) (by kernel_rfl) (by kernel_rfl) (by first | exact lenB_one _ | kernel_rfl) (by kernel_rfl) (by rfl) (by rfl) (by first | exact firstN_self _ | rfl) (by rfl) (by simp (maxSteps := 1000000) only [VC, qA, qB, qC, qD, qE, qF, qG, qH, qI, qJ, qK, qL, qM, qN, qO, qP, qQ, qR, qS, qT, qU, qV, qW, qX, qY, qZ, qe, qf, qg, qh, qj, qk, ql, qm, qn, qo, qp, qq, q0t, qu, qv, ev, qw, qy, qz, zA, zB, zC, zD, zE, zF, zG, zH, zI, zJ, TE.sv, zK, zL, zM, ↓reduceIte, reduceCtorEq, Value.oneCell', Nat.reduceEqDiff, Nat.reduceAdd, Nat.reduceLT, Nat.reduceBEq, Nat.reduceSub, Nat.reduceLeDiff, zP, zQ, zR, zS, zT, zU, zV, zW, zX, zY, zZ, za, zb, zc, zd, ze, zf, zg, zh, zi, zj, zk, zl, zm, zn, zo, zp, zq, zr, zt, zu, zw, zx, zy, zz, cE, jA, jB, hap, killE, deadOf, rwE, cD, cO, jC, jD, jE, jF, jG, jH, jI, jJ, jK, jL, jM, jN, jO, jP, jQ, jR, jS, jT, jU, jV, jW, jX, jY, hP, eR, tC0, ecS, rowMBad, rowKind, rowDec, rowCutSuf, rowParse, rowKeyB, mqS, noS, badM, Int.toNat_natCast, Int.toNat_zero, Int.toNat_one, Nat.mul_one, Nat.zero_mul, Nat.add_zero, Nat.sub_zero, Int.le_refl, Nat.reduceMul, r0, r1, hoo, q1, q2, q3, q4, q5, q6, q7, q8, hm1, hm2, hcap1, hcap2, ho2, hkc, hal, c0]) ?_; refine VT_ok hctr (rs := res38) true 45 _ _ _ ?_; simp (maxSteps := 1000000) only [VT, jf, jg, jZ, ja, jd, je, VC, qA, qB, qC, qD, qE, qF, qG, qH, qI, qJ, qK, qL, qM, qN, qO, qP, qQ, qR, qS, qT, qU, qV, qW, qX, qY, qZ, qe, qf, qg, qh, qj, qk, ql, qm, qn, qo, qp, qq, q0t, qu, qv, ev, qw, qy, qz, zA, zB, zC, zD, zE, zF, zG, zH, zI, zJ, TE.sv, zK, zL, zM, ↓reduceIte, reduceCtorEq, Value.oneCell', Nat.reduceEqDiff, Nat.reduceAdd, Nat.reduceLT, Nat.reduceBEq, Nat.reduceSub, Nat.reduceLeDiff, zP, zQ, zR, zS, zT, zU, zV, zW, zX, zY, zZ, za, zb, zc, zd, ze, zf, zg, zh, zi, zj, zk, zl, zm, zn, zo, zp, zq, zr, zt, zu, zw, zx, zy, zz, cE, jA, jB, hap, killE, deadOf, rwE, cD, cO, jC, jD, jE, jF, jG, jH, jI, jJ, jK, jL, jM, jN, jO, jP, jQ, jR, jS, jT, jU, jV, jW, jX, jY, hP, hk, res38, kp38, eR, tC0, ecS, rowMBad, rowKind, rowDec, rowCutSuf, rowParse, rowKeyB, mqS, noS, badM, Int.toNat_natCast, Int.toNat_zero, Int.toNat_one, Nat.mul_one, Nat.zero_mul, Nat.add_zero, Nat.sub_zero, Int.le_refl, Nat.reduceMul, r0, r1, hoo, q1, q2, q3, q4, q5, q6, q7, q8, hm1, hm2, hcap1, hcap2, ho2, hkc, hal, c0])
    have hr0 : ∀ (k : Nat) x, (name :: word :: l0)[k]? = some x → b < w.heap.size ∧ w.cell? ⟨b, o + k, none⟩ = some (.string ⟨x.toArray⟩) := fun k x hx => by
      obtain ⟨_, _, he, h1, h2⟩ := hraw k x hx
      cases he; exact ⟨h1, h2⟩
    refine Run_join (κ := { y : Nat × Nat × Nat × List (List UInt8) × Nat // y.2.1 = y.2.2.2.1.length ∧ y.2.1 ≤ 5000 ∧ y.2.1 ≤ y.2.2.1 ∧ RawT w (some ⟨b, y.1, none⟩) y.2.2.2.1 ∧ (∀ x ∈ y.2.2.2.1, x ≠ [] ∧ x.length ≤ 5000) ∧ readM name (word :: l0) behind = restM name word y.2.2.2.1 y.2.2.2.2 behind ∧ y.2.2.2.2 ≤ 1073741826 ∧ (y.2.2.2.2 = 0 ∨ 2 ≤ y.2.2.2.2) }) (fun y => slRead b y.1.1 y.1.2.1 y.1.2.2.1 y.1.2.2.2.2 al behind) (fun _ => [rqE name word, enC kc true]) ?_ ?_
    rotate_left
    · intro htail
      by_cases hms : name = m_ms
      · have c1 : (name == [109, 115]) = true := by rw [hms]; rfl
        have rm : ∀ z l', readM name (word :: z :: l') behind = if (numF z).2 && decide ((numF z).1 ≤ 1073741824) then restM name word l' ((numF z).1.toNat + 2) behind else (badM f_format 0, 0, false) := fun z l' => by
          simp only [readM, if_pos hms]
        cases l0 with
        | nil =>
          obtain rfl : m2 = 0 := by simp at hn2; omega
          have c2 : (((0 : Nat) : Int) == 0) = true := rfl
          (refine VT_ok hctr (rs := res38) true 300 _ _ _ ?_; simp (maxSteps := 1000000) only [VT, jf, jg, jZ, ja, jd, je, VC, qA, qB, qC, qD, qE, qF, qG, qH, qI, qJ, qK, qL, qM, qN, qO, qP, qQ, qR, qS, qT, qU, qV, qW, qX, qY, qZ, qe, qf, qg, qh, qj, qk, ql, qm, qn, qo, qp, qq, q0t, qu, qv, ev, qw, qy, qz, zA, zB, zC, zD, zE, zF, zG, zH, zI, zJ, TE.sv, zK, zL, zM, ↓reduceIte, reduceCtorEq, Value.oneCell', Nat.reduceEqDiff, Nat.reduceAdd, Nat.reduceLT, Nat.reduceBEq, Nat.reduceSub, Nat.reduceLeDiff, zP, zQ, zR, zS, zT, zU, zV, zW, zX, zY, zZ, za, zb, zc, zd, ze, zf, zg, zh, zi, zj, zk, zl, zm, zn, zo, zp, zq, zr, zt, zu, zw, zx, zy, zz, cE, jA, jB, hap, killE, deadOf, rwE, cD, cO, jC, jD, jE, jF, jG, jH, jI, jJ, jK, jL, jM, jN, jO, jP, jQ, jR, jS, jT, jU, jV, jW, jX, jY, hP, hk, res38, kp38, eR, tC0, ecS, rowMBad, rowKind, rowDec, rowCutSuf, rowParse, rowKeyB, mqS, noS, badM, Int.toNat_natCast, Int.toNat_zero, Int.toNat_one, Nat.mul_one, Nat.zero_mul, Nat.add_zero, Nat.sub_zero, Int.le_refl, Nat.reduceMul, r0, r1, hoo, q1, q2, q3, q4, q5, q6, q7, q8, hm1, hm2, hcap1, hcap2, ho2, hkc, hal, c0, c1, c2])
          exact fin0 (badM f_format 0) 0 _ (by simp only [readM, if_pos hms]) rfl rfl
        | cons z l1 =>
          have hn3 : n = l1.length + 3 := by rw [hn2]; rfl
          have c2 : ((m2 : Int) == 0) = false := by
            have : m2 ≠ 0 := by omega
            simpa using this
          obtain rfl : o2 = o + 1 + 1 := by rw [← ho2, if_neg (by omega)]
          obtain ⟨_, _, he, r2⟩ := hraw.rd (D := C) hS hw0 (k := 2) (x := z) rfl
          cases he
          have r2 : C.rd b (o + 1 + 1) 1 = some [.s z] := r2
          obtain ⟨o3, ho3⟩ : ∃ o3, (if cap2 = 1 then o + 1 + 1 else o + 1 + 1 + 1) = o3 := ⟨_, rfl⟩
          have q9 : (0 : Int) < (m2 : Int) := by omega
          have q10 : (1 : Int) ≤ (m2 : Int) := by omega
          have q11 : (m2 : Int) ≤ (cap2 : Int) := by omega
          have q12 : z.length ≤ 9223372036854775807 := by have := (hl z (by simp)).2; omega
          obtain ⟨m3, hm3⟩ : ∃ m3, m2 - 1 = m3 := ⟨_, rfl⟩
          obtain ⟨cap3, hcap3⟩ : ∃ cap3, cap2 - 1 = cap3 := ⟨_, rfl⟩
          cases hv : parseV z with
          | none =>
            (refine VT_ok hctr (rs := res38) true 300 _ _ _ ?_; simp (maxSteps := 1000000) only [VT, jf, jg, jZ, ja, jd, je, VC, qA, qB, qC, qD, qE, qF, qG, qH, qI, qJ, qK, qL, qM, qN, qO, qP, qQ, qR, qS, qT, qU, qV, qW, qX, qY, qZ, qe, qf, qg, qh, qj, qk, ql, qm, qn, qo, qp, qq, q0t, qu, qv, ev, qw, qy, qz, zA, zB, zC, zD, zE, zF, zG, zH, zI, zJ, TE.sv, zK, zL, zM, ↓reduceIte, reduceCtorEq, Value.oneCell', Nat.reduceEqDiff, Nat.reduceAdd, Nat.reduceLT, Nat.reduceBEq, Nat.reduceSub, Nat.reduceLeDiff, zP, zQ, zR, zS, zT, zU, zV, zW, zX, zY, zZ, za, zb, zc, zd, ze, zf, zg, zh, zi, zj, zk, zl, zm, zn, zo, zp, zq, zr, zt, zu, zw, zx, zy, zz, cE, jA, jB, hap, killE, deadOf, rwE, cD, cO, jC, jD, jE, jF, jG, jH, jI, jJ, jK, jL, jM, jN, jO, jP, jQ, jR, jS, jT, jU, jV, jW, jX, jY, hP, hk, res38, kp38, eR, tC0, ecS, rowMBad, rowKind, rowDec, rowCutSuf, rowParse, rowKeyB, mqS, noS, badM, Int.toNat_natCast, Int.toNat_zero, Int.toNat_one, Nat.mul_one, Nat.zero_mul, Nat.add_zero, Nat.sub_zero, Int.le_refl, Nat.reduceMul, r0, r1, hoo, q1, q2, q3, q4, q5, q6, q7, q8, hm1, hm2, hcap1, hcap2, ho2, hkc, hal, c0, c1, c2, r2, q9, q12, hv, Option.getD_none, Option.isSome_none])
            exact fin0 (badM f_format 0) 0 _ (by rw [rm]; simp [numF, hv]) rfl rfl
          | some v =>
            by_cases hbig : 1073741824 < v
            · have c3 : decide ((1073741824 : Int) < (v : Int)) = true := decide_eq_true (by omega)
              (refine VT_ok hctr (rs := res38) true 300 _ _ _ ?_; simp (maxSteps := 1000000) only [VT, jf, jg, jZ, ja, jd, je, VC, qA, qB, qC, qD, qE, qF, qG, qH, qI, qJ, qK, qL, qM, qN, qO, qP, qQ, qR, qS, qT, qU, qV, qW, qX, qY, qZ, qe, qf, qg, qh, qj, qk, ql, qm, qn, qo, qp, qq, q0t, qu, qv, ev, qw, qy, qz, zA, zB, zC, zD, zE, zF, zG, zH, zI, zJ, TE.sv, zK, zL, zM, ↓reduceIte, reduceCtorEq, Value.oneCell', Nat.reduceEqDiff, Nat.reduceAdd, Nat.reduceLT, Nat.reduceBEq, Nat.reduceSub, Nat.reduceLeDiff, zP, zQ, zR, zS, zT, zU, zV, zW, zX, zY, zZ, za, zb, zc, zd, ze, zf, zg, zh, zi, zj, zk, zl, zm, zn, zo, zp, zq, zr, zt, zu, zw, zx, zy, zz, cE, jA, jB, hap, killE, deadOf, rwE, cD, cO, jC, jD, jE, jF, jG, jH, jI, jJ, jK, jL, jM, jN, jO, jP, jQ, jR, jS, jT, jU, jV, jW, jX, jY, hP, hk, res38, kp38, eR, tC0, ecS, rowMBad, rowKind, rowDec, rowCutSuf, rowParse, rowKeyB, mqS, noS, badM, Int.toNat_natCast, Int.toNat_zero, Int.toNat_one, Nat.mul_one, Nat.zero_mul, Nat.add_zero, Nat.sub_zero, Int.le_refl, Nat.reduceMul, r0, r1, hoo, q1, q2, q3, q4, q5, q6, q7, q8, hm1, hm2, hcap1, hcap2, ho2, hkc, hal, c0, c1, c2, r2, q9, q12, hv, Option.getD_some, Option.isSome_some, c3])
              exact fin0 (badM f_format 0) 0 _ (by rw [rm]; simp [numF, hv]; omega) rfl rfl
            · have c3 : decide ((1073741824 : Int) < (v : Int)) = false := decide_eq_false (by omega)
              have w1 : IntKind.i64.wrap (v : Int) = (v : Int) := IntWalk.i64_in _ (by omega)
              have w2 : IntKind.i64.wrap ((v : Int) + 2) = ((v + 2 : Nat) : Int) := by rw [IntWalk.i64_in _ (by omega)]; rfl
              (refine VT_ok hctr (rs := res38) true 300 _ _ _ ?_; simp (maxSteps := 1000000) only [VT, jf, jg, jZ, ja, jd, je, VC, qA, qB, qC, qD, qE, qF, qG, qH, qI, qJ, qK, qL, qM, qN, qO, qP, qQ, qR, qS, qT, qU, qV, qW, qX, qY, qZ, qe, qf, qg, qh, qj, qk, ql, qm, qn, qo, qp, qq, q0t, qu, qv, ev, qw, qy, qz, zA, zB, zC, zD, zE, zF, zG, zH, zI, zJ, TE.sv, zK, zL, zM, ↓reduceIte, reduceCtorEq, Value.oneCell', Nat.reduceEqDiff, Nat.reduceAdd, Nat.reduceLT, Nat.reduceBEq, Nat.reduceSub, Nat.reduceLeDiff, zP, zQ, zR, zS, zT, zU, zV, zW, zX, zY, zZ, za, zb, zc, zd, ze, zf, zg, zh, zi, zj, zk, zl, zm, zn, zo, zp, zq, zr, zt, zu, zw, zx, zy, zz, cE, jA, jB, hap, killE, deadOf, rwE, cD, cO, jC, jD, jE, jF, jG, jH, jI, jJ, jK, jL, jM, jN, jO, jP, jQ, jR, jS, jT, jU, jV, jW, jX, jY, hP, hk, res38, kp38, eR, tC0, ecS, rowMBad, rowKind, rowDec, rowCutSuf, rowParse, rowKeyB, mqS, noS, badM, Int.toNat_natCast, Int.toNat_zero, Int.toNat_one, Nat.mul_one, Nat.zero_mul, Nat.add_zero, Nat.sub_zero, Int.le_refl, Nat.reduceMul, r0, r1, hoo, q1, q2, q3, q4, q5, q6, q7, q8, hm1, hm2, hcap1, hcap2, ho2, hkc, hal, c0, c1, c2, r2, q9, q12, hv, Option.getD_some, Option.isSome_some, c3])
              (refine Run_drawD hctr (by rw [hP]; rfl) rs38_14 [] (ensure_type_of% (Cmp.of (by simp (maxSteps := 1000000) only [VC, qA, qB, qC, qD, qE, qF, qG, qH, qI, qJ, qK, qL, qM, qN, qO, qP, qQ, qR, qS, qT, qU, qV, qW, qX, qY, qZ, qe, qf, qg, qh, qj, qk, ql, qm, qn, qo, qp, qq, q0t, qu, qv, ev, qw, qy, qz, zA, zB, zC, zD, zE, zF, zG, zH, zI, zJ, TE.sv, zK, zL, zM, ↓reduceIte, reduceCtorEq, Value.oneCell', Nat.reduceEqDiff, Nat.reduceAdd, Nat.reduceLT, Nat.reduceBEq, Nat.reduceSub, Nat.reduceLeDiff, zP, zQ, zR, zS, zT, zU, zV, zW, zX, zY, zZ, za, zb, zc, zd, ze, zf, zg, zh, zi, zj, zk, zl, zm, zn, zo, zp, zq, zr, zt, zu, zw, zx, zy, zz, cE, jA, jB, hap, killE, deadOf, rwE, cD, cO, jC, jD, jE, jF, jG, jH, jI, jJ, jK, jL, jM, jN, jO, jP, jQ, jR, jS, jT, jU, jV, jW, jX, jY, hP, eR, tC0, ecS, rowMBad, rowKind, rowDec, rowCutSuf, rowParse, rowKeyB, mqS, noS, badM, Int.toNat_natCast, Int.toNat_zero, Int.toNat_one, Nat.mul_one, Nat.zero_mul, Nat.add_zero, Nat.sub_zero, Int.le_refl, Nat.reduceMul, w1, w2, ho3, hm3, hcap3, q1, q10, q11]; rfl)) "" Cmp.mk) (by kernel_rfl) (by kernel_rfl) (by first | exact lenB_one _ | kernel_rfl) (by kernel_rfl) (by rfl) (by rfl) (by first | exact firstN_self _ | rfl) (by rfl) (by simp (maxSteps := 1000000) only [VC, qA, qB, qC, qD, qE, qF, qG, qH, qI, qJ, qK, qL, qM, qN, qO, qP, qQ, qR, qS, qT, qU, qV, qW, qX, qY, qZ, qe, qf, qg, qh, qj, qk, ql, qm, qn, qo, qp, qq, q0t, qu, qv, ev, qw, qy, qz, zA, zB, zC, zD, zE, zF, zG, zH, zI, zJ, TE.sv, zK, zL, zM, ↓reduceIte, reduceCtorEq, Value.oneCell', Nat.reduceEqDiff, Nat.reduceAdd, Nat.reduceLT, Nat.reduceBEq, Nat.reduceSub, Nat.reduceLeDiff, zP, zQ, zR, zS, zT, zU, zV, zW, zX, zY, zZ, za, zb, zc, zd, ze, zf, zg, zh, zi, zj, zk, zl, zm, zn, zo, zp, zq, zr, zt, zu, zw, zx, zy, zz, cE, jA, jB, hap, killE, deadOf, rwE, cD, cO, jC, jD, jE, jF, jG, jH, jI, jJ, jK, jL, jM, jN, jO, jP, jQ, jR, jS, jT, jU, jV, jW, jX, jY, hP, eR, tC0, ecS, rowMBad, rowKind, rowDec, rowCutSuf, rowParse, rowKeyB, mqS, noS, badM, Int.toNat_natCast, Int.toNat_zero, Int.toNat_one, Nat.mul_one, Nat.zero_mul, Nat.add_zero, Nat.sub_zero, Int.le_refl, Nat.reduceMul, w1, w2, ho3, hm3, hcap3, q1, q10, q11]) ?_; refine VT_ok hctr (rs := res38) true 0 _ _ _ ?_; simp (maxSteps := 1000000) only [VT, jf, jg, jZ, ja, jd, je, VC, qA, qB, qC, qD, qE, qF, qG, qH, qI, qJ, qK, qL, qM, qN, qO, qP, qQ, qR, qS, qT, qU, qV, qW, qX, qY, qZ, qe, qf, qg, qh, qj, qk, ql, qm, qn, qo, qp, qq, q0t, qu, qv, ev, qw, qy, qz, zA, zB, zC, zD, zE, zF, zG, zH, zI, zJ, TE.sv, zK, zL, zM, ↓reduceIte, reduceCtorEq, Value.oneCell', Nat.reduceEqDiff, Nat.reduceAdd, Nat.reduceLT, Nat.reduceBEq, Nat.reduceSub, Nat.reduceLeDiff, zP, zQ, zR, zS, zT, zU, zV, zW, zX, zY, zZ, za, zb, zc, zd, ze, zf, zg, zh, zi, zj, zk, zl, zm, zn, zo, zp, zq, zr, zt, zu, zw, zx, zy, zz, cE, jA, jB, hap, killE, deadOf, rwE, cD, cO, jC, jD, jE, jF, jG, jH, jI, jJ, jK, jL, jM, jN, jO, jP, jQ, jR, jS, jT, jU, jV, jW, jX, jY, hP, hk, res38, kp38, eR, tC0, ecS, rowMBad, rowKind, rowDec, rowCutSuf, rowParse, rowKeyB, mqS, noS, badM, Int.toNat_natCast, Int.toNat_zero, Int.toNat_one, Nat.mul_one, Nat.zero_mul, Nat.add_zero, Nat.sub_zero, Int.le_refl, Nat.reduceMul, w1, w2, ho3, hm3, hcap3, q1, q10, q11])
              refine htail ⟨(o3, m3, cap3, l1, v + 2), by simp only; omega, by simp only; omega, by simp only; omega, ?_, fun x hx => hl x (by simp at hx ⊢; exact .inr (.inr (.inr hx))), by rw [rm]; simp [numF, hv]; omega, by simp only; omega, by simp only; omega⟩ _ (sub_mk ⟨rfl, rfl, rfl, rfl, rfl, rfl, trivial⟩)
              intro k x hx
              have hx' : (name :: word :: z :: l1)[k + 3]? = some x := hx
              have := hr0 _ _ hx'
              have hk := (List.getElem?_eq_some_iff.1 hx).1
              have ho : o3 = o + 3 := by rw [← ho3, if_neg (by simp only at hk; omega)]
              exact ⟨b, o3, rfl, this.1, by rw [ho, show o + 3 + k = o + (k + 3) by omega]; exact this.2⟩
      · have c1 : (name == [109, 115]) = false := by simpa [m_ms] using hms
        (refine VT_ok hctr (rs := res38) true 2 _ _ _ ?_; simp (maxSteps := 1000000) only [VT, jf, jg, jZ, ja, jd, je, VC, qA, qB, qC, qD, qE, qF, qG, qH, qI, qJ, qK, qL, qM, qN, qO, qP, qQ, qR, qS, qT, qU, qV, qW, qX, qY, qZ, qe, qf, qg, qh, qj, qk, ql, qm, qn, qo, qp, qq, q0t, qu, qv, ev, qw, qy, qz, zA, zB, zC, zD, zE, zF, zG, zH, zI, zJ, TE.sv, zK, zL, zM, ↓reduceIte, reduceCtorEq, Value.oneCell', Nat.reduceEqDiff, Nat.reduceAdd, Nat.reduceLT, Nat.reduceBEq, Nat.reduceSub, Nat.reduceLeDiff, zP, zQ, zR, zS, zT, zU, zV, zW, zX, zY, zZ, za, zb, zc, zd, ze, zf, zg, zh, zi, zj, zk, zl, zm, zn, zo, zp, zq, zr, zt, zu, zw, zx, zy, zz, cE, jA, jB, hap, killE, deadOf, rwE, cD, cO, jC, jD, jE, jF, jG, jH, jI, jJ, jK, jL, jM, jN, jO, jP, jQ, jR, jS, jT, jU, jV, jW, jX, jY, hP, hk, res38, kp38, eR, tC0, ecS, rowMBad, rowKind, rowDec, rowCutSuf, rowParse, rowKeyB, mqS, noS, badM, Int.toNat_natCast, Int.toNat_zero, Int.toNat_one, Nat.mul_one, Nat.zero_mul, Nat.add_zero, Nat.sub_zero, Int.le_refl, Nat.reduceMul, r0, r1, hoo, q1, q2, q3, q4, q5, q6, q7, q8, hm1, hm2, hcap1, hcap2, ho2, hkc, hal, c0, c1])
        refine htail ⟨(o2, m2, cap2, l0, 0), by simp only; omega, by simp only; omega, by simp only; omega, ?_, fun x hx => hl x (by simp at hx ⊢; exact .inr (.inr hx)), by simp only [readM, if_neg hms], Nat.zero_le _, .inl rfl⟩ _ (sub_mk ⟨rfl, rfl, rfl, rfl, rfl, rfl, trivial⟩)
        intro k x hx
        have hx' : (name :: word :: l0)[k + 2]? = some x := hx
        have := hr0 _ _ hx'
        have hk := (List.getElem?_eq_some_iff.1 hx).1
        have ho : o2 = o + 2 := by rw [← ho2, if_neg (by simp only at hk; omega)]
        exact ⟨b, o2, rfl, this.1, by rw [ho, show o + 2 + k = o + (k + 2) by omega]; exact this.2⟩
    · rintro ⟨⟨oo, n', cap', ws, size⟩, e1, e2, e3, e4, e5, e6, e7, e8⟩
      simp only at e1 e2 e3 e4 e5 e6 e7 e8
      show Run C _ 134 (slRead b oo n' cap' size al behind) [rqE name word, enC kc true]
      (refine VT_ok hctr (rs := res38) true 300 _ _ _ ?_; simp (maxSteps := 1000000) only [VT, jf, jg, jZ, ja, jd, je, VC, qA, qB, qC, qD, qE, qF, qG, qH, qI, qJ, qK, qL, qM, qN, qO, qP, qQ, qR, qS, qT, qU, qV, qW, qX, qY, qZ, qe, qf, qg, qh, qj, qk, ql, qm, qn, qo, qp, qq, q0t, qu, qv, ev, qw, qy, qz, zA, zB, zC, zD, zE, zF, zG, zH, zI, zJ, TE.sv, zK, zL, zM, ↓reduceIte, reduceCtorEq, Value.oneCell', Nat.reduceEqDiff, Nat.reduceAdd, Nat.reduceLT, Nat.reduceBEq, Nat.reduceSub, Nat.reduceLeDiff, zP, zQ, zR, zS, zT, zU, zV, zW, zX, zY, zZ, za, zb, zc, zd, ze, zf, zg, zh, zi, zj, zk, zl, zm, zn, zo, zp, zq, zr, zt, zu, zw, zx, zy, zz, cE, jA, jB, hap, killE, deadOf, rwE, cD, cO, jC, jD, jE, jF, jG, jH, jI, jJ, jK, jL, jM, jN, jO, jP, jQ, jR, jS, jT, jU, jV, jW, jX, jY, hP, hk, res38, kp38, eR, tC0, ecS, rowMBad, rowKind, rowDec, rowCutSuf, rowParse, rowKeyB, mqS, noS, badM, Int.toNat_natCast, Int.toNat_zero, Int.toNat_one, Nat.mul_one, Nat.zero_mul, Nat.add_zero, Nat.sub_zero, Int.le_refl, Nat.reduceMul, slRead, rqE, rq1, enC])
      obtain ⟨c', wr, seen, hR⟩ : ∃ c' wr seen, allM al ws kc [] = (c', wr, seen) := ⟨_, _, _, rfl⟩
      have hfm : flagsM name ws = (c', wr, seen) := by unfold flagsM; rw [hal, hkc, hR]
      obtain ⟨lt, hlt⟩ : ∃ lt, seen.contains 98 = lt := ⟨_, rfl⟩
      obtain ⟨qt, hqt⟩ : ∃ qt, seen.contains 113 = qt := ⟨_, rfl⟩
      refine Run_hcall rfl (.t [.c (.s wr), .c (.b lt), .c (.b qt)]) [rqE name word, enC c' true] (by
        have := all_h (C := C) (nE := 2) (mk := fun c => 2 ≤ c ∧ c < 2) (en := [rqE name word, enC kc true]) (N := 1) (c := kc) (allowed := al) (a := some ⟨b, oo, none⟩) (n := n') (cap := cap') (ws := ws) hP hE hS rfl (by decide) (fun q hq => by omega) e1 (by rw [hw0]; exact e4) (fun x hx => ⟨(e5 x hx).1, by have := (e5 x hx).2; omega⟩) (by omega) rfl
        rw [hR, hlt, hqt] at this
        exact this) (by simp [zG]) (by simp) ?_
      (refine VT_ok hctr (rs := res38) true 24 _ _ _ ?_; simp (maxSteps := 1000000) only [VT, jf, jg, jZ, ja, jd, je, VC, qA, qB, qC, qD, qE, qF, qG, qH, qI, qJ, qK, qL, qM, qN, qO, qP, qQ, qR, qS, qT, qU, qV, qW, qX, qY, qZ, qe, qf, qg, qh, qj, qk, ql, qm, qn, qo, qp, qq, q0t, qu, qv, ev, qw, qy, qz, zA, zB, zC, zD, zE, zF, zG, zH, zI, zJ, TE.sv, zK, zL, zM, ↓reduceIte, reduceCtorEq, Value.oneCell', Nat.reduceEqDiff, Nat.reduceAdd, Nat.reduceLT, Nat.reduceBEq, Nat.reduceSub, Nat.reduceLeDiff, zP, zQ, zR, zS, zT, zU, zV, zW, zX, zY, zZ, za, zb, zc, zd, ze, zf, zg, zh, zi, zj, zk, zl, zm, zn, zo, zp, zq, zr, zt, zu, zw, zx, zy, zz, cE, jA, jB, hap, killE, deadOf, rwE, cD, cO, jC, jD, jE, jF, jG, jH, jI, jJ, jK, jL, jM, jN, jO, jP, jQ, jR, jS, jT, jU, jV, jW, jX, jY, hP, hk, res38, kp38, eR, tC0, ecS, rowMBad, rowKind, rowDec, rowCutSuf, rowParse, rowKeyB, mqS, noS, badM, Int.toNat_natCast, Int.toNat_zero, Int.toNat_one, Nat.mul_one, Nat.zero_mul, Nat.add_zero, Nat.sub_zero, Int.le_refl, Nat.reduceMul, slRead, rqE, rq1, enC])
      obtain ⟨key, kok, hkey, hkok⟩ : ∃ key kok, (keyM name word ws).getD [] = key ∧ (keyM name word ws).isSome = kok := ⟨_, _, rfl, rfl⟩
      have hkm : keyM name word ws = if lt = true then decB word else some word := by unfold keyM; rw [hfm, hlt]
      refine Run_join (κ := Unit) (fun _ => slRead2 b oo n' cap' size behind wr kok qt) (fun _ => [rqE name word, enC { c' with key := key } true]) ?_ ?_
      rotate_left
      · intro htail
        cases lt with
        | false =>
          rw [if_neg (by decide)] at hkm
          rw [hkm] at hkey hkok
          (refine VT_ok hctr (rs := res38) true 2 _ _ _ ?_; simp (maxSteps := 1000000) only [VT, jf, jg, jZ, ja, jd, je, VC, qA, qB, qC, qD, qE, qF, qG, qH, qI, qJ, qK, qL, qM, qN, qO, qP, qQ, qR, qS, qT, qU, qV, qW, qX, qY, qZ, qe, qf, qg, qh, qj, qk, ql, qm, qn, qo, qp, qq, q0t, qu, qv, ev, qw, qy, qz, zA, zB, zC, zD, zE, zF, zG, zH, zI, zJ, TE.sv, zK, zL, zM, ↓reduceIte, reduceCtorEq, Value.oneCell', Nat.reduceEqDiff, Nat.reduceAdd, Nat.reduceLT, Nat.reduceBEq, Nat.reduceSub, Nat.reduceLeDiff, zP, zQ, zR, zS, zT, zU, zV, zW, zX, zY, zZ, za, zb, zc, zd, ze, zf, zg, zh, zi, zj, zk, zl, zm, zn, zo, zp, zq, zr, zt, zu, zw, zx, zy, zz, cE, jA, jB, hap, killE, deadOf, rwE, cD, cO, jC, jD, jE, jF, jG, jH, jI, jJ, jK, jL, jM, jN, jO, jP, jQ, jR, jS, jT, jU, jV, jW, jX, jY, hP, hk, res38, kp38, eR, tC0, ecS, rowMBad, rowKind, rowDec, rowCutSuf, rowParse, rowKeyB, mqS, noS, badM, Int.toNat_natCast, Int.toNat_zero, Int.toNat_one, Nat.mul_one, Nat.zero_mul, Nat.add_zero, Nat.sub_zero, Int.le_refl, Nat.reduceMul, slRead, rqE, rq1, enC])
          subst hkey; subst hkok
          exact htail () _ (sub_mk ⟨rfl, rfl, rfl, rfl, rfl, rfl, rfl, rfl, trivial⟩)
        | true =>
          rw [if_pos rfl] at hkm
          rw [hkm] at hkey hkok
          have l1 : word.length ≤ 5000 := (hl word (by simp)).2
          (refine VT_ok hctr (rs := res38) true 12 _ _ _ ?_; simp (maxSteps := 1000000) only [VT, jf, jg, jZ, ja, jd, je, VC, qA, qB, qC, qD, qE, qF, qG, qH, qI, qJ, qK, qL, qM, qN, qO, qP, qQ, qR, qS, qT, qU, qV, qW, qX, qY, qZ, qe, qf, qg, qh, qj, qk, ql, qm, qn, qo, qp, qq, q0t, qu, qv, ev, qw, qy, qz, zA, zB, zC, zD, zE, zF, zG, zH, zI, zJ, TE.sv, zK, zL, zM, ↓reduceIte, reduceCtorEq, Value.oneCell', Nat.reduceEqDiff, Nat.reduceAdd, Nat.reduceLT, Nat.reduceBEq, Nat.reduceSub, Nat.reduceLeDiff, zP, zQ, zR, zS, zT, zU, zV, zW, zX, zY, zZ, za, zb, zc, zd, ze, zf, zg, zh, zi, zj, zk, zl, zm, zn, zo, zp, zq, zr, zt, zu, zw, zx, zy, zz, cE, jA, jB, hap, killE, deadOf, rwE, cD, cO, jC, jD, jE, jF, jG, jH, jI, jJ, jK, jL, jM, jN, jO, jP, jQ, jR, jS, jT, jU, jV, jW, jX, jY, hP, hk, res38, kp38, eR, tC0, ecS, rowMBad, rowKind, rowDec, rowCutSuf, rowParse, rowKeyB, mqS, noS, badM, Int.toNat_natCast, Int.toNat_zero, Int.toNat_one, Nat.mul_one, Nat.zero_mul, Nat.add_zero, Nat.sub_zero, Int.le_refl, Nat.reduceMul, slRead, rqE, rq1, enC, hkey, hkok, l1])
          exact htail () _ (sub_mk ⟨rfl, rfl, rfl, rfl, rfl, rfl, rfl, rfl, trivial⟩)
      · intro _
        show Run C _ 134 (slRead2 b oo n' cap' size behind wr kok qt) [rqE name word, enC { c' with key := key } true]
        have hwm : wrongM name word ws size = if wr ≠ [] then wr else if okM (keyM name word ws) = false then f_format else if 65538 < size then f_large else [] := by unfold wrongM; rw [hfm]
        have hok : okM (keyM name word ws) = (kok && keyB key) := by
          rw [← hkey, ← hkok]
          cases keyM name word ws with
          | none => rfl
          | some k => simp [okM]
        have hkl : key.length ≤ 9223372036854775807 := by
          have := (hl word (by simp)).2
          rw [← hkey, hkm]
          split
          · have := dec_le word; omega
          · show word.length ≤ _; omega
        by_cases hwr : wr = []
        · subst hwr
          rw [if_neg (by simp)] at hwm
          have w0 : (([] : List UInt8) == []) = true := rfl
          cases kok with
          | false =>
            rw [hok, if_pos (by rfl)] at hwm
            (refine VT_ok hctr (rs := res38) true 300 _ _ _ ?_; simp (maxSteps := 1000000) only [VT, jf, jg, jZ, ja, jd, je, VC, qA, qB, qC, qD, qE, qF, qG, qH, qI, qJ, qK, qL, qM, qN, qO, qP, qQ, qR, qS, qT, qU, qV, qW, qX, qY, qZ, qe, qf, qg, qh, qj, qk, ql, qm, qn, qo, qp, qq, q0t, qu, qv, ev, qw, qy, qz, zA, zB, zC, zD, zE, zF, zG, zH, zI, zJ, TE.sv, zK, zL, zM, ↓reduceIte, reduceCtorEq, Value.oneCell', Nat.reduceEqDiff, Nat.reduceAdd, Nat.reduceLT, Nat.reduceBEq, Nat.reduceSub, Nat.reduceLeDiff, zP, zQ, zR, zS, zT, zU, zV, zW, zX, zY, zZ, za, zb, zc, zd, ze, zf, zg, zh, zi, zj, zk, zl, zm, zn, zo, zp, zq, zr, zt, zu, zw, zx, zy, zz, cE, jA, jB, hap, killE, deadOf, rwE, cD, cO, jC, jD, jE, jF, jG, jH, jI, jJ, jK, jL, jM, jN, jO, jP, jQ, jR, jS, jT, jU, jV, jW, jX, jY, hP, hk, res38, kp38, eR, tC0, ecS, rowMBad, rowKind, rowDec, rowCutSuf, rowParse, rowKeyB, mqS, noS, badM, Int.toNat_natCast, Int.toNat_zero, Int.toNat_one, Nat.mul_one, Nat.zero_mul, Nat.add_zero, Nat.sub_zero, Int.le_refl, Nat.reduceMul, slRead2, rqE, rq1, enC, w0, Bool.not_true, Bool.not_false, lb1, lb2, lb3, lb4, u8b, UInt8.reduceToNat])
            exact fin0 (badM f_format size) 0 _ (by rw [e6, restM, hwm]; rfl) rfl rfl
          | true =>
            rw [Bool.true_and] at hok
            cases hkb : keyB key with
            | false =>
              rw [hok, if_pos hkb] at hwm
              (refine VT_ok hctr (rs := res38) true 300 _ _ _ ?_; simp (maxSteps := 1000000) only [VT, jf, jg, jZ, ja, jd, je, VC, qA, qB, qC, qD, qE, qF, qG, qH, qI, qJ, qK, qL, qM, qN, qO, qP, qQ, qR, qS, qT, qU, qV, qW, qX, qY, qZ, qe, qf, qg, qh, qj, qk, ql, qm, qn, qo, qp, qq, q0t, qu, qv, ev, qw, qy, qz, zA, zB, zC, zD, zE, zF, zG, zH, zI, zJ, TE.sv, zK, zL, zM, ↓reduceIte, reduceCtorEq, Value.oneCell', Nat.reduceEqDiff, Nat.reduceAdd, Nat.reduceLT, Nat.reduceBEq, Nat.reduceSub, Nat.reduceLeDiff, zP, zQ, zR, zS, zT, zU, zV, zW, zX, zY, zZ, za, zb, zc, zd, ze, zf, zg, zh, zi, zj, zk, zl, zm, zn, zo, zp, zq, zr, zt, zu, zw, zx, zy, zz, cE, jA, jB, hap, killE, deadOf, rwE, cD, cO, jC, jD, jE, jF, jG, jH, jI, jJ, jK, jL, jM, jN, jO, jP, jQ, jR, jS, jT, jU, jV, jW, jX, jY, hP, hk, res38, kp38, eR, tC0, ecS, rowMBad, rowKind, rowDec, rowCutSuf, rowParse, rowKeyB, mqS, noS, badM, Int.toNat_natCast, Int.toNat_zero, Int.toNat_one, Nat.mul_one, Nat.zero_mul, Nat.add_zero, Nat.sub_zero, Int.le_refl, Nat.reduceMul, slRead2, rqE, rq1, enC, w0, Bool.not_true, Bool.not_false, lb1, lb2, lb3, lb4, u8b, UInt8.reduceToNat, hkb, hkl])
              exact fin0 (badM f_format size) 0 _ (by rw [e6, restM, hwm]; rfl) rfl rfl
            | true =>
              rw [hok, if_neg (by rw [hkb]; simp)] at hwm
              by_cases hs : 65538 < size
              · rw [if_pos hs] at hwm
                have c4 : decide ((65538 : Int) < (size : Int)) = true := decide_eq_true (by omega)
                (refine VT_ok hctr (rs := res38) true 300 _ _ _ ?_; simp (maxSteps := 1000000) only [VT, jf, jg, jZ, ja, jd, je, VC, qA, qB, qC, qD, qE, qF, qG, qH, qI, qJ, qK, qL, qM, qN, qO, qP, qQ, qR, qS, qT, qU, qV, qW, qX, qY, qZ, qe, qf, qg, qh, qj, qk, ql, qm, qn, qo, qp, qq, q0t, qu, qv, ev, qw, qy, qz, zA, zB, zC, zD, zE, zF, zG, zH, zI, zJ, TE.sv, zK, zL, zM, ↓reduceIte, reduceCtorEq, Value.oneCell', Nat.reduceEqDiff, Nat.reduceAdd, Nat.reduceLT, Nat.reduceBEq, Nat.reduceSub, Nat.reduceLeDiff, zP, zQ, zR, zS, zT, zU, zV, zW, zX, zY, zZ, za, zb, zc, zd, ze, zf, zg, zh, zi, zj, zk, zl, zm, zn, zo, zp, zq, zr, zt, zu, zw, zx, zy, zz, cE, jA, jB, hap, killE, deadOf, rwE, cD, cO, jC, jD, jE, jF, jG, jH, jI, jJ, jK, jL, jM, jN, jO, jP, jQ, jR, jS, jT, jU, jV, jW, jX, jY, hP, hk, res38, kp38, eR, tC0, ecS, rowMBad, rowKind, rowDec, rowCutSuf, rowParse, rowKeyB, mqS, noS, badM, Int.toNat_natCast, Int.toNat_zero, Int.toNat_one, Nat.mul_one, Nat.zero_mul, Nat.add_zero, Nat.sub_zero, Int.le_refl, Nat.reduceMul, slRead2, rqE, rq1, enC, w0, Bool.not_true, Bool.not_false, lb1, lb2, lb3, lb4, u8b, UInt8.reduceToNat, hkb, hkl, c4])
                exact fin0 (badM f_large size) 0 _ (by rw [e6, restM, hwm]; rfl) rfl rfl
              · rw [if_neg hs] at hwm
                have c4 : decide ((65538 : Int) < (size : Int)) = false := decide_eq_false (by omega)
                by_cases hbh : behind.length < size
                · have c5 : decide ((behind.length : Int) < (size : Int)) = true := decide_eq_true (by omega)
                  (refine VT_ok hctr (rs := res38) true 300 _ _ _ ?_; simp (maxSteps := 1000000) only [VT, jf, jg, jZ, ja, jd, je, VC, qA, qB, qC, qD, qE, qF, qG, qH, qI, qJ, qK, qL, qM, qN, qO, qP, qQ, qR, qS, qT, qU, qV, qW, qX, qY, qZ, qe, qf, qg, qh, qj, qk, ql, qm, qn, qo, qp, qq, q0t, qu, qv, ev, qw, qy, qz, zA, zB, zC, zD, zE, zF, zG, zH, zI, zJ, TE.sv, zK, zL, zM, ↓reduceIte, reduceCtorEq, Value.oneCell', Nat.reduceEqDiff, Nat.reduceAdd, Nat.reduceLT, Nat.reduceBEq, Nat.reduceSub, Nat.reduceLeDiff, zP, zQ, zR, zS, zT, zU, zV, zW, zX, zY, zZ, za, zb, zc, zd, ze, zf, zg, zh, zi, zj, zk, zl, zm, zn, zo, zp, zq, zr, zt, zu, zw, zx, zy, zz, cE, jA, jB, hap, killE, deadOf, rwE, cD, cO, jC, jD, jE, jF, jG, jH, jI, jJ, jK, jL, jM, jN, jO, jP, jQ, jR, jS, jT, jU, jV, jW, jX, jY, hP, hk, res38, kp38, eR, tC0, ecS, rowMBad, rowKind, rowDec, rowCutSuf, rowParse, rowKeyB, mqS, noS, badM, Int.toNat_natCast, Int.toNat_zero, Int.toNat_one, Nat.mul_one, Nat.zero_mul, Nat.add_zero, Nat.sub_zero, Int.le_refl, Nat.reduceMul, slRead2, rqE, rq1, enC, w0, Bool.not_true, Bool.not_false, lb1, lb2, lb3, lb4, u8b, UInt8.reduceToNat, hkb, hkl, c4, c5])
                  refine Fin_cx (v := .t [.g (mqS noS noS (rq1 name word)), .c (.i .i64 0), .c (.b true)]) hC hres38 fun ρ w' hw _ _ => ?_
                  have hup := hw.up
                  rw [hC] at hup
                  rw [e6, restM, if_neg (by rw [hwm]; simp), if_pos hbh]
                  exact ⟨hup.to_below, _, rfl, MqV.none rfl rfl⟩
                · have c5 : decide ((behind.length : Int) < (size : Int)) = false := decide_eq_false (by omega)
                  obtain ⟨val, hval⟩ : ∃ val, (if 0 < size then behind.take (size - 2) else []) = val := ⟨_, rfl⟩
                  have hcv : c'.val = [] := by
                    have := allM_val al ws kc []
                    rw [hR, ← hkc, kindM_val] at this
                    exact this
                  (refine VT_ok hctr (rs := res38) true 54 _ _ _ ?_; simp (maxSteps := 1000000) only [VT, jf, jg, jZ, ja, jd, je, VC, qA, qB, qC, qD, qE, qF, qG, qH, qI, qJ, qK, qL, qM, qN, qO, qP, qQ, qR, qS, qT, qU, qV, qW, qX, qY, qZ, qe, qf, qg, qh, qj, qk, ql, qm, qn, qo, qp, qq, q0t, qu, qv, ev, qw, qy, qz, zA, zB, zC, zD, zE, zF, zG, zH, zI, zJ, TE.sv, zK, zL, zM, ↓reduceIte, reduceCtorEq, Value.oneCell', Nat.reduceEqDiff, Nat.reduceAdd, Nat.reduceLT, Nat.reduceBEq, Nat.reduceSub, Nat.reduceLeDiff, zP, zQ, zR, zS, zT, zU, zV, zW, zX, zY, zZ, za, zb, zc, zd, ze, zf, zg, zh, zi, zj, zk, zl, zm, zn, zo, zp, zq, zr, zt, zu, zw, zx, zy, zz, cE, jA, jB, hap, killE, deadOf, rwE, cD, cO, jC, jD, jE, jF, jG, jH, jI, jJ, jK, jL, jM, jN, jO, jP, jQ, jR, jS, jT, jU, jV, jW, jX, jY, hP, hk, res38, kp38, eR, tC0, ecS, rowMBad, rowKind, rowDec, rowCutSuf, rowParse, rowKeyB, mqS, noS, badM, Int.toNat_natCast, Int.toNat_zero, Int.toNat_one, Nat.mul_one, Nat.zero_mul, Nat.add_zero, Nat.sub_zero, Int.le_refl, Nat.reduceMul, slRead2, rqE, rq1, enC, w0, Bool.not_true, Bool.not_false, lb1, lb2, lb3, lb4, u8b, UInt8.reduceToNat, hkb, hkl, c4, c5])
                  refine Run_join (κ := { _u : Unit // readM name (word :: l0) behind = (doneM name word ws val, (size : Int), false) }) (fun _ => slRead3 b oo n' cap' size qt) (fun _ => [rqE name word, enC { c' with key := key, val := val } true]) ?_ ?_
                  rotate_left
                  · intro htail
                    by_cases hz : size = 0
                    · subst hz
                      have c6 : decide ((0 : Int) < ((0 : Nat) : Int)) = false := rfl
                      rw [if_neg (by omega)] at hval
                      (refine VT_ok hctr (rs := res38) true 2 _ _ _ ?_; simp (maxSteps := 1000000) only [VT, jf, jg, jZ, ja, jd, je, VC, qA, qB, qC, qD, qE, qF, qG, qH, qI, qJ, qK, qL, qM, qN, qO, qP, qQ, qR, qS, qT, qU, qV, qW, qX, qY, qZ, qe, qf, qg, qh, qj, qk, ql, qm, qn, qo, qp, qq, q0t, qu, qv, ev, qw, qy, qz, zA, zB, zC, zD, zE, zF, zG, zH, zI, zJ, TE.sv, zK, zL, zM, ↓reduceIte, reduceCtorEq, Value.oneCell', Nat.reduceEqDiff, Nat.reduceAdd, Nat.reduceLT, Nat.reduceBEq, Nat.reduceSub, Nat.reduceLeDiff, zP, zQ, zR, zS, zT, zU, zV, zW, zX, zY, zZ, za, zb, zc, zd, ze, zf, zg, zh, zi, zj, zk, zl, zm, zn, zo, zp, zq, zr, zt, zu, zw, zx, zy, zz, cE, jA, jB, hap, killE, deadOf, rwE, cD, cO, jC, jD, jE, jF, jG, jH, jI, jJ, jK, jL, jM, jN, jO, jP, jQ, jR, jS, jT, jU, jV, jW, jX, jY, hP, hk, res38, kp38, eR, tC0, ecS, rowMBad, rowKind, rowDec, rowCutSuf, rowParse, rowKeyB, mqS, noS, badM, Int.toNat_natCast, Int.toNat_zero, Int.toNat_one, Nat.mul_one, Nat.zero_mul, Nat.add_zero, Nat.sub_zero, Int.le_refl, Nat.reduceMul, c6, slRead2, rqE, rq1, enC])
                      rw [hcv]
                      subst hval
                      exact htail ⟨(), by rw [e6, restM, if_neg (by rw [hwm]; simp), if_neg hbh, if_neg (by simp), if_neg (by simp)]⟩ _ (sub_mk ⟨rfl, rfl, rfl, rfl, rfl, trivial⟩)
                    · obtain ⟨m, rfl⟩ : ∃ m, size = m + 2 := ⟨size - 2, by omega⟩
                      have c6 : decide ((0 : Int) < ((m + 2 : Nat) : Int)) = true := decide_eq_true (by omega)
                      rw [if_pos (by omega), show m + 2 - 2 = m by omega] at hval
                      have d1 : (0 : Int) ≤ ((m + 2 : Nat) : Int) := by omega
                      have d2 : ((m + 2 : Nat) : Int) ≤ (behind.length : Int) := by omega
                      have d3 : (behind.take (m + 2)).length ≤ 9223372036854775807 := by rw [List.length_take]; omega
                      obtain ⟨cs1, cs2⟩ := cut_suf (b := behind) (n := m) (by omega)
                      cases hsf : Lib.hasSuffix (behind.take (m + 2)) [13, 10] with
                      | false =>
                        (refine VT_ok hctr (rs := res38) true 300 _ _ _ ?_; simp (maxSteps := 1000000) only [VT, jf, jg, jZ, ja, jd, je, VC, qA, qB, qC, qD, qE, qF, qG, qH, qI, qJ, qK, qL, qM, qN, qO, qP, qQ, qR, qS, qT, qU, qV, qW, qX, qY, qZ, qe, qf, qg, qh, qj, qk, ql, qm, qn, qo, qp, qq, q0t, qu, qv, ev, qw, qy, qz, zA, zB, zC, zD, zE, zF, zG, zH, zI, zJ, TE.sv, zK, zL, zM, ↓reduceIte, reduceCtorEq, Value.oneCell', Nat.reduceEqDiff, Nat.reduceAdd, Nat.reduceLT, Nat.reduceBEq, Nat.reduceSub, Nat.reduceLeDiff, zP, zQ, zR, zS, zT, zU, zV, zW, zX, zY, zZ, za, zb, zc, zd, ze, zf, zg, zh, zi, zj, zk, zl, zm, zn, zo, zp, zq, zr, zt, zu, zw, zx, zy, zz, cE, jA, jB, hap, killE, deadOf, rwE, cD, cO, jC, jD, jE, jF, jG, jH, jI, jJ, jK, jL, jM, jN, jO, jP, jQ, jR, jS, jT, jU, jV, jW, jX, jY, hP, hk, res38, kp38, eR, tC0, ecS, rowMBad, rowKind, rowDec, rowCutSuf, rowParse, rowKeyB, mqS, noS, badM, Int.toNat_natCast, Int.toNat_zero, Int.toNat_one, Nat.mul_one, Nat.zero_mul, Nat.add_zero, Nat.sub_zero, Int.le_refl, Nat.reduceMul, c6, slRead2, rqE, rq1, enC, d1, d2, d3, hsf, Bool.not_false, List.drop_zero])
                        rw [hsf] at cs1
                        exact fin0 (badM b_chunk 0) ((m + 2 : Nat) : Int) _ (by
                          rw [e6, restM, if_neg (by rw [hwm]; simp), if_neg hbh, if_pos ⟨by omega, by
                            rw [show m + 2 - 2 = m by omega]
                            intro e; rw [e] at cs1; cases cs1⟩]) rfl rfl
                      | true =>
                        have cs3 := cs2 hsf
                        rw [hval] at cs3
                        (refine VT_ok hctr (rs := res38) true 21 _ _ _ ?_; simp (maxSteps := 1000000) only [VT, jf, jg, jZ, ja, jd, je, VC, qA, qB, qC, qD, qE, qF, qG, qH, qI, qJ, qK, qL, qM, qN, qO, qP, qQ, qR, qS, qT, qU, qV, qW, qX, qY, qZ, qe, qf, qg, qh, qj, qk, ql, qm, qn, qo, qp, qq, q0t, qu, qv, ev, qw, qy, qz, zA, zB, zC, zD, zE, zF, zG, zH, zI, zJ, TE.sv, zK, zL, zM, ↓reduceIte, reduceCtorEq, Value.oneCell', Nat.reduceEqDiff, Nat.reduceAdd, Nat.reduceLT, Nat.reduceBEq, Nat.reduceSub, Nat.reduceLeDiff, zP, zQ, zR, zS, zT, zU, zV, zW, zX, zY, zZ, za, zb, zc, zd, ze, zf, zg, zh, zi, zj, zk, zl, zm, zn, zo, zp, zq, zr, zt, zu, zw, zx, zy, zz, cE, jA, jB, hap, killE, deadOf, rwE, cD, cO, jC, jD, jE, jF, jG, jH, jI, jJ, jK, jL, jM, jN, jO, jP, jQ, jR, jS, jT, jU, jV, jW, jX, jY, hP, hk, res38, kp38, eR, tC0, ecS, rowMBad, rowKind, rowDec, rowCutSuf, rowParse, rowKeyB, mqS, noS, badM, Int.toNat_natCast, Int.toNat_zero, Int.toNat_one, Nat.mul_one, Nat.zero_mul, Nat.add_zero, Nat.sub_zero, Int.le_refl, Nat.reduceMul, c6, slRead2, rqE, rq1, enC, d1, d2, d3, hsf, cs3, Bool.not_true, List.drop_zero])
                        refine htail ⟨(), ?_⟩ _ (sub_mk ⟨rfl, rfl, rfl, rfl, rfl, trivial⟩)
                        rw [hsf] at cs1
                        rw [e6, restM, if_neg (by rw [hwm]; simp), if_neg hbh, if_neg, if_pos (by omega), show m + 2 - 2 = m by omega, hval]
                        intro h
                        rw [show m + 2 - 2 = m by omega] at h
                        exact h.2 (eq_of_beq cs1.symm)
                  · rintro ⟨_, hrd⟩
                    show Run C _ 134 (slRead3 b oo n' cap' size qt) [rqE name word, enC { c' with key := key, val := val } true]
                    (refine VT_ok hctr (rs := res38) true 300 _ _ _ ?_; simp (maxSteps := 1000000) only [VT, jf, jg, jZ, ja, jd, je, VC, qA, qB, qC, qD, qE, qF, qG, qH, qI, qJ, qK, qL, qM, qN, qO, qP, qQ, qR, qS, qT, qU, qV, qW, qX, qY, qZ, qe, qf, qg, qh, qj, qk, ql, qm, qn, qo, qp, qq, q0t, qu, qv, ev, qw, qy, qz, zA, zB, zC, zD, zE, zF, zG, zH, zI, zJ, TE.sv, zK, zL, zM, ↓reduceIte, reduceCtorEq, Value.oneCell', Nat.reduceEqDiff, Nat.reduceAdd, Nat.reduceLT, Nat.reduceBEq, Nat.reduceSub, Nat.reduceLeDiff, zP, zQ, zR, zS, zT, zU, zV, zW, zX, zY, zZ, za, zb, zc, zd, ze, zf, zg, zh, zi, zj, zk, zl, zm, zn, zo, zp, zq, zr, zt, zu, zw, zx, zy, zz, cE, jA, jB, hap, killE, deadOf, rwE, cD, cO, jC, jD, jE, jF, jG, jH, jI, jJ, jK, jL, jM, jN, jO, jP, jQ, jR, jS, jT, jU, jV, jW, jX, jY, hP, hk, res38, kp38, eR, tC0, ecS, rowMBad, rowKind, rowDec, rowCutSuf, rowParse, rowKeyB, mqS, noS, badM, Int.toNat_natCast, Int.toNat_zero, Int.toNat_one, Nat.mul_one, Nat.zero_mul, Nat.add_zero, Nat.sub_zero, Int.le_refl, Nat.reduceMul, slRead3, rqE, rq1, enC])
                    have hdone : doneM name word ws val = ⟨1, [{ c' with key := key, val := val }], qt, [], 0, false, name, ws, word⟩ := by
                      unfold doneM; rw [hfm, hkey, hqt]
                    obtain ⟨cc, hcc⟩ : ∃ cc : Cd, cc = { c' with key := key, val := val } := ⟨_, rfl⟩
                    have ecc : ecS cc = [.i .i64 c'.op, .i .i64 c'.mode, .s key, .s val, .i .u32 c'.flags, .i .i64 c'.exp, .b c'.hasExp, .i .u64 c'.cas, .b c'.hasCas, .i .u64 c'.delta, .i .u64 c'.init, .b c'.down, .b c'.viv, .i .i64 c'.vive, .i .i64 c'.recache, .b c'.inval] := by rw [hcc]; rfl
                    rw [← hcc] at hdone
                    obtain ⟨i0, hi', hz0, hz1, hz2⟩ := info_parts infoStr
                    have hend : ∀ (fl : SC) (en : List EN) (r2 : Nat → World → (Nat → RE) → Prop), True := fun _ _ _ => trivial
                    cases n' with
                    | zero =>
                      obtain rfl : ws = [] := List.eq_nil_of_length_eq_zero e1.symm
                      refine append_none_op (e := 9) (by rw [hP]; exact Tryz.underlying28) (by rw [hP]; exact hi') rfl rfl (by simp) ?_
                      (refine VT_ok hctr (rs := res38) true 300 _ _ _ ?_; simp (maxSteps := 1000000) only [VT, jf, jg, jZ, ja, jd, je, VC, qA, qB, qC, qD, qE, qF, qG, qH, qI, qJ, qK, qL, qM, qN, qO, qP, qQ, qR, qS, qT, qU, qV, qW, qX, qY, qZ, qe, qf, qg, qh, qj, qk, ql, qm, qn, qo, qp, qq, q0t, qu, qv, ev, qw, qy, qz, zA, zB, zC, zD, zE, zF, zG, zH, zI, zJ, TE.sv, zK, zL, zM, ↓reduceIte, reduceCtorEq, Value.oneCell', Nat.reduceEqDiff, Nat.reduceAdd, Nat.reduceLT, Nat.reduceBEq, Nat.reduceSub, Nat.reduceLeDiff, zP, zQ, zR, zS, zT, zU, zV, zW, zX, zY, zZ, za, zb, zc, zd, ze, zf, zg, zh, zi, zj, zk, zl, zm, zn, zo, zp, zq, zr, zt, zu, zw, zx, zy, zz, cE, jA, jB, hap, killE, deadOf, rwE, cD, cO, jC, jD, jE, jF, jG, jH, jI, jJ, jK, jL, jM, jN, jO, jP, jQ, jR, jS, jT, jU, jV, jW, jX, jY, hP, hk, res38, kp38, eR, tC0, ecS, rowMBad, rowKind, rowDec, rowCutSuf, rowParse, rowKeyB, mqS, noS, badM, Int.toNat_natCast, Int.toNat_zero, Int.toNat_one, Nat.mul_one, Nat.zero_mul, Nat.add_zero, Nat.sub_zero, Int.le_refl, Nat.reduceMul, slRead3, rqE, rq1, enC])
                      refine Fin_cx (v := .t [.g (mqS (.sl 2 0 1 1) noS ⟨1, [cc], qt, [], 0, false, name, [], word⟩), .c (.i .i64 (size : Int)), .c (.b false)]) hC hres38 fun ρ w' hw _ _ => ?_
                      have hup := hw.up
                      rw [hC] at hup
                      obtain ⟨k1, k2⟩ := RowOk.lit (N := 2) (n := 1) (z := 16) (e := 54) (cells := ecS cc) hw hS (by rw [ecc]; rfl) (by decide) (by simp [ecS]) rfl (by unfold maxLen; decide)
                      rw [hw0] at k1
                      rw [hrd, hdone]
                      refine ⟨hup.to_below, _, rfl, ⟨_, nilR w.heap.size, ?_, k1, RowOk.nil _ _ _ _, fun _ h => by cases h⟩⟩
                      show mqA ((SC.sl 2 0 1 1).den ρ) _ _ = _
                      rw [k2]; rfl
                    | succ n2 =>
                      have hrdw : C.rd b oo (n2 + 1) = some (ws.map SC.s) := by
                        have hmm : (ws.map encW).map qz = ws.map SC.s := by simp [encW, qz, Function.comp_def]
                        rw [← hmm]
                        refine rd_of (vs := ws.map encW) ?_ (by rw [List.length_map, ← e1])
                        intro w' hu j v hv
                        rw [List.getElem?_map, Option.map_eq_some_iff] at hv
                        obtain ⟨x, hx, rfl⟩ := hv
                        obtain ⟨_, _, he, h1, h2⟩ := e4 j x hx
                        cases he
                        rw [hS, hw0] at hu
                        exact (hu.cell (p := ⟨b, oo + j, none⟩) h1 (fun h => h)).trans h2
                      refine append_op (X := .v (.slice none 0 0)) (Y := .v (.slice (some ⟨b, oo, none⟩) (n2 + 1) cap')) (o := none) (n := 0) (m := n2 + 1) (z := 1) (bts := 16) (cells := []) (news := ws.map SC.s) (e := 9) (by rw [hP]; exact Tryz.underlying28) (by rw [hP]; exact hi') hz0 hz1 hz2 rfl Nat.zero_lt_one (by decide) (.none rfl rfl) rfl rfl (src_raw (L := n2 + 1) hrdw) (by rw [List.length_map, ← e1, Nat.mul_one]) (ones_st ws) (fun pr => st_wf pr ws) (by omega) (by omega) (by rw [hn0]; exact Nat.zero_le _) rfl (by simp) ?_
                      (refine VT_ok hctr (rs := res38) true 300 _ _ _ ?_; simp (maxSteps := 1000000) only [VT, jf, jg, jZ, ja, jd, je, VC, qA, qB, qC, qD, qE, qF, qG, qH, qI, qJ, qK, qL, qM, qN, qO, qP, qQ, qR, qS, qT, qU, qV, qW, qX, qY, qZ, qe, qf, qg, qh, qj, qk, ql, qm, qn, qo, qp, qq, q0t, qu, qv, ev, qw, qy, qz, zA, zB, zC, zD, zE, zF, zG, zH, zI, zJ, TE.sv, zK, zL, zM, ↓reduceIte, reduceCtorEq, Value.oneCell', Nat.reduceEqDiff, Nat.reduceAdd, Nat.reduceLT, Nat.reduceBEq, Nat.reduceSub, Nat.reduceLeDiff, zP, zQ, zR, zS, zT, zU, zV, zW, zX, zY, zZ, za, zb, zc, zd, ze, zf, zg, zh, zi, zj, zk, zl, zm, zn, zo, zp, zq, zr, zt, zu, zw, zx, zy, zz, cE, jA, jB, hap, killE, deadOf, rwE, cD, cO, jC, jD, jE, jF, jG, jH, jI, jJ, jK, jL, jM, jN, jO, jP, jQ, jR, jS, jT, jU, jV, jW, jX, jY, hP, hk, res38, kp38, eR, tC0, ecS, rowMBad, rowKind, rowDec, rowCutSuf, rowParse, rowKeyB, mqS, noS, badM, Int.toNat_natCast, Int.toNat_zero, Int.toNat_one, Nat.mul_one, Nat.zero_mul, Nat.add_zero, Nat.sub_zero, Int.le_refl, Nat.reduceMul, slRead3, rqE, rq1, enC, killE, rwE])
                      refine Fin_cx (v := .t [.g (mqS (.sl 2 0 1 1) (.rw 3 (n2 + 1)) ⟨1, [cc], qt, [], 0, false, name, ws, word⟩), .c (.i .i64 (size : Int)), .c (.b false)]) hC hres38 fun ρ w' hw _ _ => ?_
                      have hup := hw.up
                      rw [hC] at hup
                      obtain ⟨k1, k2⟩ := RowOk.lit (N := 2) (n := 1) (z := 16) (e := 54) (cells := ecS cc) hw hS (by rw [ecc]; rfl) (by decide) (by simp [ecS]) rfl (by unfold maxLen; decide)
                      have k3 := RowOk.of (N := 3) (n := n2 + 1) (z := 1) (e := 9) (cells := [] ++ ws.map SC.s) hw hS rfl (by decide)
                      rw [hw0] at k1 k3
                      rw [List.nil_append, st_den, e1] at k3
                      rw [hrd, hdone]
                      refine ⟨hup.to_below, _, rfl, ⟨_, ρ 3, ?_, k1, k3, fun _ h3 he => ?_⟩⟩
                      · show mqA ((SC.sl 2 0 1 1).den ρ) (rwOf (ρ 3) (n2 + 1)) _ = _
                        rw [k2]
                        rw [e1]; rfl
                      · have hnl : (ρ 2).nl = none := Decidable.byContradiction fun hd => by
                          have := (hw.hp 2 _ _ _ (by simp) rfl).non hd
                          cases this
                        have := hw.inj 2 3 (by simp) (by simp) ((deadE_of rfl).2 ⟨by decide, hnl⟩) ((deadE_of rfl).2 ⟨by show ¬ ((9 : Nat) = DEAD); decide, h3⟩) he
                        cases this
        · rw [if_pos hwr] at hwm
          have w1 : (wr == []) = false := by simpa using hwr
          (refine VT_ok hctr (rs := res38) true 300 _ _ _ ?_; simp (maxSteps := 1000000) only [VT, jf, jg, jZ, ja, jd, je, VC, qA, qB, qC, qD, qE, qF, qG, qH, qI, qJ, qK, qL, qM, qN, qO, qP, qQ, qR, qS, qT, qU, qV, qW, qX, qY, qZ, qe, qf, qg, qh, qj, qk, ql, qm, qn, qo, qp, qq, q0t, qu, qv, ev, qw, qy, qz, zA, zB, zC, zD, zE, zF, zG, zH, zI, zJ, TE.sv, zK, zL, zM, ↓reduceIte, reduceCtorEq, Value.oneCell', Nat.reduceEqDiff, Nat.reduceAdd, Nat.reduceLT, Nat.reduceBEq, Nat.reduceSub, Nat.reduceLeDiff, zP, zQ, zR, zS, zT, zU, zV, zW, zX, zY, zZ, za, zb, zc, zd, ze, zf, zg, zh, zi, zj, zk, zl, zm, zn, zo, zp, zq, zr, zt, zu, zw, zx, zy, zz, cE, jA, jB, hap, killE, deadOf, rwE, cD, cO, jC, jD, jE, jF, jG, jH, jI, jJ, jK, jL, jM, jN, jO, jP, jQ, jR, jS, jT, jU, jV, jW, jX, jY, hP, hk, res38, kp38, eR, tC0, ecS, rowMBad, rowKind, rowDec, rowCutSuf, rowParse, rowKeyB, mqS, noS, badM, Int.toNat_natCast, Int.toNat_zero, Int.toNat_one, Nat.mul_one, Nat.zero_mul, Nat.add_zero, Nat.sub_zero, Int.le_refl, Nat.reduceMul, slRead2, rqE, rq1, enC, w1, Bool.not_false])
          exact fin0 (badM wr size) 0 _ (by rw [e6, restM, if_pos (by rw [hwm]; exact hwr), hwm]) rfl rfl
end Go.Proofs.YtehfcboiimdkbaaGreatDoor
