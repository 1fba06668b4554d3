/- TextStores, walked: A. -/
import Derived.Test.YtlbbldcfkalhlaaGreatDoorCTstoresW
namespace Go.Proofs.YtlbbldcfkalhlaaGreatDoor
set_option linter.unusedSimpArgs false
set_option linter.unusedVariables false
set_option linter.unusedSimpArgs false
set_option linter.unusedVariables false
set_option maxHeartbeats 8000000
open Go.RowKit
set_option maxRecDepth 100000

theorem sto_ffff (key val : List UInt8) (fl exp cas name : Int) (hkey : keyB key = true) (s0 : ¬ exp < -1099511627776) (s1 : ¬ 1099511627776 < exp) (hv : val.length ≤ 65536) (sn : ¬ exp < 0) (f0 : 0 ≤ fl) (f1 : fl < 4294967296) (n0 : 0 ≤ cas) (n1 : cas < 18446744073709551616) (c0 : ¬ name < 0) (cn : -9223372036854775808 ≤ name) (cm : name ≤ 9223372036854775807) {i : Nat} (hi : name.tmod 6 = (i : Int)) (hi5 : i < 5) (w : World) (hE0 : EnvT w) :
    Calls Tryz.prog 6 #[.string ⟨key.toArray⟩, .int .u32 fl, .int .i64 exp, .string ⟨val.toArray⟩, .int .u64 cas, .int .i64 name, .bool false] w fun e w' => e = .returned (.bool true) ∧ Below w.heap.size w w' := by
  refine calls_of_Run Tryz.func6 rfl kp6 (S := Non) (ρ := fun _ => reOf 0) (en := []) [.c (.s key), .c (.i .u32 fl), .c (.i .i64 exp), .c (.s val), .c (.i .u64 cas), .c (.i .i64 name), .c (.b false)] Tryz.ntmps6 (At.nil _ _ _) (by simp [SV.wf, SC.wf]) (by simp) ?_
  intro C hC hP hk
  have hE : ∀ w', Upd C.S C.w0 w' → EnvT w' := fun w' hu => by rw [hC] at hu; exact hE0.below hu.to_below
  have hctr := swC_ok hP hE
  have hn0 : C.n0 = 0 := by rw [hC]; rfl
  have fin : ∀ en, Fin C res6 (.c (.b true)) en := fun en => Fin_ro (v := .c (.b true)) hC hres6 rfl trivial
  have s0' : decide (exp < -1099511627776) = false := decide_eq_false s0
  have s1' : decide (1099511627776 < exp) = false := decide_eq_false s1
  have sv' : decide (65536 < ((val.length : Nat) : Int)) = false := decide_eq_false (by omega)
  have sn' : decide (exp < 0) = false := decide_eq_false sn
  have c0' : decide (name < 0) = false := decide_eq_false c0
  have kl := key_le hkey
  have dl1 := dec_len_le exp.toNat (by omega)
  have dl2 := dec_len_le fl.toNat (by omega)
  have dl3 := dec_len_le cas.toNat (by omega)
  have hkl : key.length ≤ 9223372036854775807 := by omega
  have wx : 0 ≤ IntKind.u64.wrap exp := by rw [IntKind.wrap_u64]; omega
  have wx2 : IntKind.u64.wrap exp < 18446744073709551616 := by rw [IntKind.wrap_u64]; omega
  have hwS : IntKind.u64.wrap exp = exp := by rw [IntKind.wrap_u64]; omega
  have wf : IntKind.u64.wrap fl = fl := by rw [IntKind.wrap_u64]; omega
  have wv : IntKind.u64.wrap ((val.length : Nat) : Int) = ((val.length : Nat) : Int) := by rw [IntKind.wrap_u64]; omega
  have f64 : fl < 18446744073709551616 := by omega
  have v64 : ((val.length : Nat) : Int) < 18446744073709551616 := by omega
  have v0 : (0 : Int) ≤ ((val.length : Nat) : Int) := by omega
  have sp : 0 ≤ exp := by omega
  have tn : exp < 18446744073709551616 := by omega
  have hix := stN_ix (i := i) (by omega)
  have hi6 : (i : Int) < 6 := by omega
  have hi0 : (0 : Int) ≤ (i : Int) := by omega
  have hi6' : (i : Int) < ((6 : Nat) : Int) := by omega
  have wi : IntKind.i64.wrap (i : Int) = (i : Int) := by rw [IntKind.wrap_i64]; omega
  have b5 : ((i : Int) == 5) = false := by simp only [beq_eq_false_iff_ne, ne_eq]; omega
  have hs : secText exp = Lib.decDigits exp.toNat := if_neg sn
  have hJ : joinW [stN i, key, Lib.decDigits fl.toNat, Lib.decDigits exp.toNat, Lib.decDigits val.length] = stJ i key val fl.toNat exp cas.toNat false := by
    unfold joinW
    rw [join_B]
    unfold stJ
    rw [show stW i key fl.toNat exp val.length cas.toNat = [key, Lib.decDigits fl.toNat, secText exp, Lib.decDigits val.length] from if_pos (by omega), hs]; rfl
  have jl := stJ_len (i := i) (key := key) (val := val) (fl := fl.toNat) (cas := cas.toNat) (exp := exp) hkey (by omega) (by omega) (by omega) hv (by omega) false
  have bl := st_len i key val fl.toNat exp cas.toNat false
  have p1 := ps_st1 (i := i) (key := key) (val := val) (fl := fl.toNat) (cas := cas.toNat) (exp := exp) hkey (by omega) (by omega) (by omega) hv (by omega) false
  have p2 := ps_st2 (i := i) (key := key) (val := val) (fl := fl.toNat) (cas := cas.toNat) (exp := exp) hkey (by omega) (by omega) (by omega) hv (by omega) false
  have p3 := ps_st3 (i := i) (key := key) (val := val) (fl := fl.toNat) (cas := cas.toNat) (exp := exp) hkey (by omega) (by omega) (by omega) hv (by omega) false
  have pt := st_take i key val fl.toNat exp cas.toNat false
  have hB : stJ i key val fl.toNat exp cas.toNat false ++ [13, 10] ++ val ++ [13, 10] = stB i key val fl.toNat exp cas.toNat false := rfl
  have hdo : doR [stC i key val fl.toNat exp cas.toNat] false = ⟨1, [⟨2, stMode i, key, val, fl, exp, false, 0, false, 0, 0, false, false, 0, -1, false⟩], false, false, [], [], 0, false, []⟩ := by
    have e1 : ((fl.toNat : Nat) : Int) = fl := by omega
    have e2 : ((cas.toNat : Nat) : Int) = cas := by omega
    have e3 : decide (5 ≤ i) = false := by simp; omega
    simp [doR, stC, Cd.zero, e1, e2, e3, show (i < 5) = True from by simp; omega]
  rw [hdo] at p1
  have y1 : (((1 : Nat) : Int) == 1) = true := rfl
  have y2 : (0 : Int) < ((1 : Nat) : Int) := by decide
  have hJ2 : joinW [stN i, key, Lib.decDigits fl.toNat, Lib.decDigits exp.toNat, Lib.decDigits val.length] = stJ i key val fl.toNat exp cas.toNat false := hJ
  obtain ⟨J, hJJ⟩ : ∃ J, stJ i key val fl.toNat exp cas.toNat false = J := ⟨_, rfl⟩
  obtain ⟨B, hBB⟩ : ∃ B, stB i key val fl.toNat exp cas.toNat false = B := ⟨_, rfl⟩
  rw [hJJ] at hJ hJ2 hB jl bl p2 p3 pt
  rw [hBB] at hB bl p1 p3 pt
  obtain ⟨N, hN⟩ : ∃ N, B.length = N := ⟨_, rfl⟩
  rw [hN] at bl p1 p3 pt
  have wN : IntKind.i64.wrap ((N : Int) - 1) = ((N - 1 : Nat) : Int) := by rw [IntKind.wrap_i64]; omega
  have tk : List.drop (Int.toNat 0) (List.take (N - 1) B) = J ++ [13, 10] ++ (val ++ [13]) := pt
  have i5 : (i : Int).tmod 5 = stMode i := by
    rw [Int.tmod_eq_emod_of_nonneg (by omega)]
    unfold stMode
    split <;> omega
  have wm : IntKind.i64.wrap (stMode i) = stMode i := by rw [IntKind.wrap_i64]; unfold stMode; split <;> omega
  have y3 : ((N : Int) == (N : Int)) = true := by simp
  have ub : Tryz.prog.underlying 4 = some .bool := Tryz.underlying4
  have lN : (J ++ [13, 10] ++ (val ++ [13])).length = N - 1 := by simp only [List.length_append, List.length_cons, List.length_nil]; omega
  (refine VT_ok hctr (rs := res6) true 300 _ _ _ ?_; simp (maxSteps := 1000000) only [VT, jf, jg, jZ, ja, jd, je, VC, qA, qB, qC, qD, qE, qF, qG, qH, qI, qJ, qK, qL, qM, qN, qO, qP, qQ, qR, qS, qT, qU, qV, qW, qX, qY, qZ, qe, qf, qg, qh, qj, qk, ql, qm, qn, qo, qp, qq, qt, qu, qv, ev, qw, qy, qz, zA, zB, zC, zD, zE, zF, zG, zH, zI, zJ, TE.sv, zK, zL, zM, ↓reduceIte, reduceCtorEq, Value.oneCell', Nat.reduceEqDiff, Nat.reduceAdd, Nat.reduceLT, Nat.reduceBEq, Nat.reduceSub, Nat.reduceLeDiff, zP, zQ, zR, zS, zT, zU, zV, zW, zX, zY, zZ, za, zb, zc, zd, ze, zf, zg, zh, zi, zj, zk, zl, zm, zn, zo, zp, zq, zr, zt, zu, zw, zx, zy, zz, cE, jA, jB, hap, killE, deadOf, rwE, cD, cO, jC, jD, jE, jF, jG, jH, jI, jJ, jK, jL, jM, jN, jO, jP, jQ, jR, jS, jT, jU, jV, jW, jX, jY, hP, hk, res6, kp6, swC, lwC, rowKeyB, rowText, rowJoinR, strsOf, hkl, hkey, s0', s1', sv', sn', c0', hi, wi, wf, wv, hwS, b5])
  repeat (refine ⟨by (first | omega | (simp only [List.length_append, List.length_cons, List.length_nil]; omega)), ?_⟩)
  (refine Run_drawD hctr (by rw [hP]; rfl) rs6_10 [] (ensure_type_of% (Cmp.of (by simp (maxSteps := 1000000) only [VC, qA, qB, qC, qD, qE, qF, qG, qH, qI, qJ, qK, qL, qM, qN, qO, qP, qQ, qR, qS, qT, qU, qV, qW, qX, qY, qZ, qe, qf, qg, qh, qj, qk, ql, qm, qn, qo, qp, qq, qt, qu, qv, ev, qw, qy, qz, zA, zB, zC, zD, zE, zF, zG, zH, zI, zJ, TE.sv, zK, zL, zM, ↓reduceIte, reduceCtorEq, Value.oneCell', Nat.reduceEqDiff, Nat.reduceAdd, Nat.reduceLT, Nat.reduceBEq, Nat.reduceSub, Nat.reduceLeDiff, zP, zQ, zR, zS, zT, zU, zV, zW, zX, zY, zZ, za, zb, zc, zd, ze, zf, zg, zh, zi, zj, zk, zl, zm, zn, zo, zp, zq, zr, zt, zu, zw, zx, zy, zz, cE, jA, jB, hap, killE, deadOf, rwE, cD, cO, jC, jD, jE, jF, jG, jH, jI, jJ, jK, jL, jM, jN, jO, jP, jQ, jR, jS, jT, jU, jV, jW, jX, jY, hP, swC, lwC, rowKeyB, rowText, rowJoinR, strsOf, hkl, hkey, s0', s1', sv', sn', c0', hi, wi, wf, wv, hwS, b5, hix, hi0, hi6, hi6', f0, f64, v0, v64, Int.toNat_natCast, Nat.mul_one, Nat.zero_add, hJ, hJ2, hB]; rfl)) "" Cmp.mk) (by kernel_rfl) (by kernel_rfl) (by first | exact lenB_one _ | kernel_rfl) (by kernel_rfl) (by rfl) (by rfl) (by first | exact firstN_self _ | rfl) (by rfl) (by simp (maxSteps := 1000000) only [VC, qA, qB, qC, qD, qE, qF, qG, qH, qI, qJ, qK, qL, qM, qN, qO, qP, qQ, qR, qS, qT, qU, qV, qW, qX, qY, qZ, qe, qf, qg, qh, qj, qk, ql, qm, qn, qo, qp, qq, qt, qu, qv, ev, qw, qy, qz, zA, zB, zC, zD, zE, zF, zG, zH, zI, zJ, TE.sv, zK, zL, zM, ↓reduceIte, reduceCtorEq, Value.oneCell', Nat.reduceEqDiff, Nat.reduceAdd, Nat.reduceLT, Nat.reduceBEq, Nat.reduceSub, Nat.reduceLeDiff, zP, zQ, zR, zS, zT, zU, zV, zW, zX, zY, zZ, za, zb, zc, zd, ze, zf, zg, zh, zi, zj, zk, zl, zm, zn, zo, zp, zq, zr, zt, zu, zw, zx, zy, zz, cE, jA, jB, hap, killE, deadOf, rwE, cD, cO, jC, jD, jE, jF, jG, jH, jI, jJ, jK, jL, jM, jN, jO, jP, jQ, jR, jS, jT, jU, jV, jW, jX, jY, hP, swC, lwC, rowKeyB, rowText, rowJoinR, strsOf, hkl, hkey, s0', s1', sv', sn', c0', hi, wi, wf, wv, hwS, b5, hix, hi0, hi6, hi6', f0, f64, v0, v64, Int.toNat_natCast, Nat.mul_one, Nat.zero_add, hJ, hJ2, hB]) ?_; refine VT_ok hctr (rs := res6) true 300 _ _ _ ?_; simp (maxSteps := 1000000) only [VT, jf, jg, jZ, ja, jd, je, VC, qA, qB, qC, qD, qE, qF, qG, qH, qI, qJ, qK, qL, qM, qN, qO, qP, qQ, qR, qS, qT, qU, qV, qW, qX, qY, qZ, qe, qf, qg, qh, qj, qk, ql, qm, qn, qo, qp, qq, qt, qu, qv, ev, qw, qy, qz, zA, zB, zC, zD, zE, zF, zG, zH, zI, zJ, TE.sv, zK, zL, zM, ↓reduceIte, reduceCtorEq, Value.oneCell', Nat.reduceEqDiff, Nat.reduceAdd, Nat.reduceLT, Nat.reduceBEq, Nat.reduceSub, Nat.reduceLeDiff, zP, zQ, zR, zS, zT, zU, zV, zW, zX, zY, zZ, za, zb, zc, zd, ze, zf, zg, zh, zi, zj, zk, zl, zm, zn, zo, zp, zq, zr, zt, zu, zw, zx, zy, zz, cE, jA, jB, hap, killE, deadOf, rwE, cD, cO, jC, jD, jE, jF, jG, jH, jI, jJ, jK, jL, jM, jN, jO, jP, jQ, jR, jS, jT, jU, jV, jW, jX, jY, hP, hk, res6, kp6, swC, lwC, rowKeyB, rowText, rowJoinR, strsOf, hkl, hkey, s0', s1', sv', sn', c0', hi, wi, wf, wv, hwS, b5, hix, hi0, hi6, hi6', f0, f64, v0, v64, Int.toNat_natCast, Nat.mul_one, Nat.zero_add, hJ, hJ2, hB])
  repeat (refine ⟨by (first | omega | (simp only [List.length_append, List.length_cons, List.length_nil]; omega)), ?_⟩)
  refine Run_parse _ p1 (by simp only [List.length_append, List.length_cons, List.length_nil]; omega) hP hE (by rw [hn0]; exact Nat.zero_le _) (by rfl) (by simp) ?_
  (refine VT_ok hctr (rs := res6) true 300 _ _ _ ?_; simp (maxSteps := 1000000) only [VT, jf, jg, jZ, ja, jd, je, VC, qA, qB, qC, qD, qE, qF, qG, qH, qI, qJ, qK, qL, qM, qN, qO, qP, qQ, qR, qS, qT, qU, qV, qW, qX, qY, qZ, qe, qf, qg, qh, qj, qk, ql, qm, qn, qo, qp, qq, qt, qu, qv, ev, qw, qy, qz, zA, zB, zC, zD, zE, zF, zG, zH, zI, zJ, TE.sv, zK, zL, zM, ↓reduceIte, reduceCtorEq, Value.oneCell', Nat.reduceEqDiff, Nat.reduceAdd, Nat.reduceLT, Nat.reduceBEq, Nat.reduceSub, Nat.reduceLeDiff, zP, zQ, zR, zS, zT, zU, zV, zW, zX, zY, zZ, za, zb, zc, zd, ze, zf, zg, zh, zi, zj, zk, zl, zm, zn, zo, zp, zq, zr, zt, zu, zw, zx, zy, zz, cE, jA, jB, hap, killE, deadOf, rwE, cD, cO, jC, jD, jE, jF, jG, jH, jI, jJ, jK, jL, jM, jN, jO, jP, jQ, jR, jS, jT, jU, jV, jW, jX, jY, hP, hk, res6, kp6, swC, lwC, rowKeyB, rowText, rowJoinR, strsOf, hkl, hkey, s0', s1', sv', sn', c0', hi, wi, wf, wv, hwS, b5, psV, psE, rqS, badR, Rq.zero, hN, wN, tk, Int.toNat_natCast, hi0])
  repeat (refine ⟨by (first | omega | (simp only [List.length_append, List.length_cons, List.length_nil]; omega)), ?_⟩)
  refine Run_parse _ p2 (by simp only [List.length_append, List.length_cons, List.length_nil]; omega) hP hE (by rw [hn0]; exact Nat.zero_le _) (by rfl) (by simp) ?_
  (refine VT_ok hctr (rs := res6) true 300 _ _ _ ?_; simp (maxSteps := 1000000) only [VT, jf, jg, jZ, ja, jd, je, VC, qA, qB, qC, qD, qE, qF, qG, qH, qI, qJ, qK, qL, qM, qN, qO, qP, qQ, qR, qS, qT, qU, qV, qW, qX, qY, qZ, qe, qf, qg, qh, qj, qk, ql, qm, qn, qo, qp, qq, qt, qu, qv, ev, qw, qy, qz, zA, zB, zC, zD, zE, zF, zG, zH, zI, zJ, TE.sv, zK, zL, zM, ↓reduceIte, reduceCtorEq, Value.oneCell', Nat.reduceEqDiff, Nat.reduceAdd, Nat.reduceLT, Nat.reduceBEq, Nat.reduceSub, Nat.reduceLeDiff, zP, zQ, zR, zS, zT, zU, zV, zW, zX, zY, zZ, za, zb, zc, zd, ze, zf, zg, zh, zi, zj, zk, zl, zm, zn, zo, zp, zq, zr, zt, zu, zw, zx, zy, zz, cE, jA, jB, hap, killE, deadOf, rwE, cD, cO, jC, jD, jE, jF, jG, jH, jI, jJ, jK, jL, jM, jN, jO, jP, jQ, jR, jS, jT, jU, jV, jW, jX, jY, hP, hk, res6, kp6, swC, lwC, rowKeyB, rowText, rowJoinR, strsOf, hkl, hkey, s0', s1', sv', sn', c0', hi, wi, wf, wv, hwS, b5, psV, psE, rqS, badR, Rq.zero, hN, wN, tk, Int.toNat_natCast, hi0])
  repeat (refine ⟨by (first | omega | (simp only [List.length_append, List.length_cons, List.length_nil]; omega)), ?_⟩)
  refine Run_parse _ p3 (by simp only [List.length_append, List.length_cons, List.length_nil]; omega) hP hE (by rw [hn0]; exact Nat.zero_le _) (by rfl) (by simp) ?_
  (refine VT_ok hctr (rs := res6) true 400 _ _ _ ?_; simp (maxSteps := 1000000) only [VT, jf, jg, jZ, ja, jd, je, VC, qA, qB, qC, qD, qE, qF, qG, qH, qI, qJ, qK, qL, qM, qN, qO, qP, qQ, qR, qS, qT, qU, qV, qW, qX, qY, qZ, qe, qf, qg, qh, qj, qk, ql, qm, qn, qo, qp, qq, qt, qu, qv, ev, qw, qy, qz, zA, zB, zC, zD, zE, zF, zG, zH, zI, zJ, TE.sv, zK, zL, zM, ↓reduceIte, reduceCtorEq, Value.oneCell', Nat.reduceEqDiff, Nat.reduceAdd, Nat.reduceLT, Nat.reduceBEq, Nat.reduceSub, Nat.reduceLeDiff, zP, zQ, zR, zS, zT, zU, zV, zW, zX, zY, zZ, za, zb, zc, zd, ze, zf, zg, zh, zi, zj, zk, zl, zm, zn, zo, zp, zq, zr, zt, zu, zw, zx, zy, zz, cE, jA, jB, hap, killE, deadOf, rwE, cD, cO, jC, jD, jE, jF, jG, jH, jI, jJ, jK, jL, jM, jN, jO, jP, jQ, jR, jS, jT, jU, jV, jW, jX, jY, hP, hk, res6, kp6, swC, lwC, rowKeyB, rowText, rowJoinR, strsOf, hkl, hkey, s0', s1', sv', sn', c0', hi, wi, wf, wv, hwS, b5, psV, psE, rqS, badR, Rq.zero, hN, wN, tk, Int.toNat_natCast, hi0, i5, wm, y1, y2, y3, rwE, flatG, rcS, steq_cm, List.flatMap_cons, List.flatMap_nil, List.append_nil, List.length_cons, List.length_nil, beq_self_eq_true, bne_self_eq_false, true_and, Int.toNat_zero, Nat.zero_mul, Nat.zero_add])
  refine ⟨by decide, ?_⟩
  (refine Run_drawD hctr (by rw [hP]; rfl) rs6_23 [] (ensure_type_of% (Cmp.of (by simp (maxSteps := 1000000) only [VC, qA, qB, qC, qD, qE, qF, qG, qH, qI, qJ, qK, qL, qM, qN, qO, qP, qQ, qR, qS, qT, qU, qV, qW, qX, qY, qZ, qe, qf, qg, qh, qj, qk, ql, qm, qn, qo, qp, qq, qt, qu, qv, ev, qw, qy, qz, zA, zB, zC, zD, zE, zF, zG, zH, zI, zJ, TE.sv, zK, zL, zM, ↓reduceIte, reduceCtorEq, Value.oneCell', Nat.reduceEqDiff, Nat.reduceAdd, Nat.reduceLT, Nat.reduceBEq, Nat.reduceSub, Nat.reduceLeDiff, zP, zQ, zR, zS, zT, zU, zV, zW, zX, zY, zZ, za, zb, zc, zd, ze, zf, zg, zh, zi, zj, zk, zl, zm, zn, zo, zp, zq, zr, zt, zu, zw, zx, zy, zz, cE, jA, jB, hap, killE, deadOf, rwE, cD, cO, jC, jD, jE, jF, jG, jH, jI, jJ, jK, jL, jM, jN, jO, jP, jQ, jR, jS, jT, jU, jV, jW, jX, jY, hP, swC, lwC, rowKeyB, rowText, rowJoinR, strsOf, hkl, hkey, s0', s1', sv', sn', c0', hi, wi, wf, wv, hwS, b5, psV, psE, rqS, badR, Rq.zero, hN, wN, tk, Int.toNat_natCast, hi0, i5, wm, y1, y2, y3, rwE, flatG, rcS, steq_cm, List.flatMap_cons, List.flatMap_nil, List.append_nil, List.length_cons, List.length_nil, beq_self_eq_true, bne_self_eq_false, true_and, Int.toNat_zero, Nat.zero_mul, Nat.zero_add, Bool.and_self, Bool.and_true, Bool.true_and, Bool.not_false, Bool.not_true, Int.le_refl, ub]; rfl)) "" Cmp.mk) (by kernel_rfl) (by kernel_rfl) (by first | exact lenB_one _ | kernel_rfl) (by kernel_rfl) (by rfl) (by rfl) (by first | exact firstN_self _ | rfl) (by rfl) (by simp (maxSteps := 1000000) only [VC, qA, qB, qC, qD, qE, qF, qG, qH, qI, qJ, qK, qL, qM, qN, qO, qP, qQ, qR, qS, qT, qU, qV, qW, qX, qY, qZ, qe, qf, qg, qh, qj, qk, ql, qm, qn, qo, qp, qq, qt, qu, qv, ev, qw, qy, qz, zA, zB, zC, zD, zE, zF, zG, zH, zI, zJ, TE.sv, zK, zL, zM, ↓reduceIte, reduceCtorEq, Value.oneCell', Nat.reduceEqDiff, Nat.reduceAdd, Nat.reduceLT, Nat.reduceBEq, Nat.reduceSub, Nat.reduceLeDiff, zP, zQ, zR, zS, zT, zU, zV, zW, zX, zY, zZ, za, zb, zc, zd, ze, zf, zg, zh, zi, zj, zk, zl, zm, zn, zo, zp, zq, zr, zt, zu, zw, zx, zy, zz, cE, jA, jB, hap, killE, deadOf, rwE, cD, cO, jC, jD, jE, jF, jG, jH, jI, jJ, jK, jL, jM, jN, jO, jP, jQ, jR, jS, jT, jU, jV, jW, jX, jY, hP, swC, lwC, rowKeyB, rowText, rowJoinR, strsOf, hkl, hkey, s0', s1', sv', sn', c0', hi, wi, wf, wv, hwS, b5, psV, psE, rqS, badR, Rq.zero, hN, wN, tk, Int.toNat_natCast, hi0, i5, wm, y1, y2, y3, rwE, flatG, rcS, steq_cm, List.flatMap_cons, List.flatMap_nil, List.append_nil, List.length_cons, List.length_nil, beq_self_eq_true, bne_self_eq_false, true_and, Int.toNat_zero, Nat.zero_mul, Nat.zero_add, Bool.and_self, Bool.and_true, Bool.true_and, Bool.not_false, Bool.not_true, Int.le_refl, ub]) ?_; refine VT_ok hctr (rs := res6) true 400 _ _ _ ?_; simp (maxSteps := 1000000) only [VT, jf, jg, jZ, ja, jd, je, VC, qA, qB, qC, qD, qE, qF, qG, qH, qI, qJ, qK, qL, qM, qN, qO, qP, qQ, qR, qS, qT, qU, qV, qW, qX, qY, qZ, qe, qf, qg, qh, qj, qk, ql, qm, qn, qo, qp, qq, qt, qu, qv, ev, qw, qy, qz, zA, zB, zC, zD, zE, zF, zG, zH, zI, zJ, TE.sv, zK, zL, zM, ↓reduceIte, reduceCtorEq, Value.oneCell', Nat.reduceEqDiff, Nat.reduceAdd, Nat.reduceLT, Nat.reduceBEq, Nat.reduceSub, Nat.reduceLeDiff, zP, zQ, zR, zS, zT, zU, zV, zW, zX, zY, zZ, za, zb, zc, zd, ze, zf, zg, zh, zi, zj, zk, zl, zm, zn, zo, zp, zq, zr, zt, zu, zw, zx, zy, zz, cE, jA, jB, hap, killE, deadOf, rwE, cD, cO, jC, jD, jE, jF, jG, jH, jI, jJ, jK, jL, jM, jN, jO, jP, jQ, jR, jS, jT, jU, jV, jW, jX, jY, hP, hk, res6, kp6, swC, lwC, rowKeyB, rowText, rowJoinR, strsOf, hkl, hkey, s0', s1', sv', sn', c0', hi, wi, wf, wv, hwS, b5, psV, psE, rqS, badR, Rq.zero, hN, wN, tk, Int.toNat_natCast, hi0, i5, wm, y1, y2, y3, rwE, flatG, rcS, steq_cm, List.flatMap_cons, List.flatMap_nil, List.append_nil, List.length_cons, List.length_nil, beq_self_eq_true, bne_self_eq_false, true_and, Int.toNat_zero, Nat.zero_mul, Nat.zero_add, Bool.and_self, Bool.and_true, Bool.true_and, Bool.not_false, Bool.not_true, Int.le_refl, ub])
  exact fin _
theorem sto_ffft (key val : List UInt8) (fl exp cas name : Int) (hkey : keyB key = true) (s0 : ¬ exp < -1099511627776) (s1 : ¬ 1099511627776 < exp) (hv : val.length ≤ 65536) (sn : ¬ exp < 0) (f0 : 0 ≤ fl) (f1 : fl < 4294967296) (n0 : 0 ≤ cas) (n1 : cas < 18446744073709551616) (c0 : name < 0) (cn : -9223372036854775808 ≤ name) (cm : name ≤ 9223372036854775807) {i : Nat} (hi : (-(name + 1)).tmod 6 = (i : Int)) (hi5 : i < 5) (w : World) (hE0 : EnvT w) :
    Calls Tryz.prog 6 #[.string ⟨key.toArray⟩, .int .u32 fl, .int .i64 exp, .string ⟨val.toArray⟩, .int .u64 cas, .int .i64 name, .bool false] w fun e w' => e = .returned (.bool true) ∧ Below w.heap.size w w' := by
  refine calls_of_Run Tryz.func6 rfl kp6 (S := Non) (ρ := fun _ => reOf 0) (en := []) [.c (.s key), .c (.i .u32 fl), .c (.i .i64 exp), .c (.s val), .c (.i .u64 cas), .c (.i .i64 name), .c (.b false)] Tryz.ntmps6 (At.nil _ _ _) (by simp [SV.wf, SC.wf]) (by simp) ?_
  intro C hC hP hk
  have hE : ∀ w', Upd C.S C.w0 w' → EnvT w' := fun w' hu => by rw [hC] at hu; exact hE0.below hu.to_below
  have hctr := swC_ok hP hE
  have hn0 : C.n0 = 0 := by rw [hC]; rfl
  have fin : ∀ en, Fin C res6 (.c (.b true)) en := fun en => Fin_ro (v := .c (.b true)) hC hres6 rfl trivial
  have s0' : decide (exp < -1099511627776) = false := decide_eq_false s0
  have s1' : decide (1099511627776 < exp) = false := decide_eq_false s1
  have sv' : decide (65536 < ((val.length : Nat) : Int)) = false := decide_eq_false (by omega)
  have sn' : decide (exp < 0) = false := decide_eq_false sn
  have c0' : decide (name < 0) = true := decide_eq_true c0
  have kl := key_le hkey
  have dl1 := dec_len_le exp.toNat (by omega)
  have dl2 := dec_len_le fl.toNat (by omega)
  have dl3 := dec_len_le cas.toNat (by omega)
  have hkl : key.length ≤ 9223372036854775807 := by omega
  have wx : 0 ≤ IntKind.u64.wrap exp := by rw [IntKind.wrap_u64]; omega
  have wx2 : IntKind.u64.wrap exp < 18446744073709551616 := by rw [IntKind.wrap_u64]; omega
  have hwS : IntKind.u64.wrap exp = exp := by rw [IntKind.wrap_u64]; omega
  have wf : IntKind.u64.wrap fl = fl := by rw [IntKind.wrap_u64]; omega
  have wv : IntKind.u64.wrap ((val.length : Nat) : Int) = ((val.length : Nat) : Int) := by rw [IntKind.wrap_u64]; omega
  have f64 : fl < 18446744073709551616 := by omega
  have v64 : ((val.length : Nat) : Int) < 18446744073709551616 := by omega
  have v0 : (0 : Int) ≤ ((val.length : Nat) : Int) := by omega
  have sp : 0 ≤ exp := by omega
  have tn : exp < 18446744073709551616 := by omega
  have hix := stN_ix (i := i) (by omega)
  have hi6 : (i : Int) < 6 := by omega
  have hi0 : (0 : Int) ≤ (i : Int) := by omega
  have hi6' : (i : Int) < ((6 : Nat) : Int) := by omega
  have wi : IntKind.i64.wrap (i : Int) = (i : Int) := by rw [IntKind.wrap_i64]; omega
  have b5 : ((i : Int) == 5) = false := by simp only [beq_eq_false_iff_ne, ne_eq]; omega
  have hs : secText exp = Lib.decDigits exp.toNat := if_neg sn
  have hJ : joinW [stN i, key, Lib.decDigits fl.toNat, Lib.decDigits exp.toNat, Lib.decDigits val.length] = stJ i key val fl.toNat exp cas.toNat false := by
    unfold joinW
    rw [join_B]
    unfold stJ
    rw [show stW i key fl.toNat exp val.length cas.toNat = [key, Lib.decDigits fl.toNat, secText exp, Lib.decDigits val.length] from if_pos (by omega), hs]; rfl
  have jl := stJ_len (i := i) (key := key) (val := val) (fl := fl.toNat) (cas := cas.toNat) (exp := exp) hkey (by omega) (by omega) (by omega) hv (by omega) false
  have bl := st_len i key val fl.toNat exp cas.toNat false
  have p1 := ps_st1 (i := i) (key := key) (val := val) (fl := fl.toNat) (cas := cas.toNat) (exp := exp) hkey (by omega) (by omega) (by omega) hv (by omega) false
  have p2 := ps_st2 (i := i) (key := key) (val := val) (fl := fl.toNat) (cas := cas.toNat) (exp := exp) hkey (by omega) (by omega) (by omega) hv (by omega) false
  have p3 := ps_st3 (i := i) (key := key) (val := val) (fl := fl.toNat) (cas := cas.toNat) (exp := exp) hkey (by omega) (by omega) (by omega) hv (by omega) false
  have pt := st_take i key val fl.toNat exp cas.toNat false
  have w3 : IntKind.i64.wrap (name + 1) = name + 1 := by rw [IntKind.wrap_i64]; omega
  obtain ⟨v, hvv⟩ : ∃ v, -(name + 1) = v := ⟨_, rfl⟩
  have w4 : IntKind.i64.wrap (0 - (name + 1)) = v := by rw [IntKind.wrap_i64]; omega
  rw [hvv] at hi
  have hB : stJ i key val fl.toNat exp cas.toNat false ++ [13, 10] ++ val ++ [13, 10] = stB i key val fl.toNat exp cas.toNat false := rfl
  have hdo : doR [stC i key val fl.toNat exp cas.toNat] false = ⟨1, [⟨2, stMode i, key, val, fl, exp, false, 0, false, 0, 0, false, false, 0, -1, false⟩], false, false, [], [], 0, false, []⟩ := by
    have e1 : ((fl.toNat : Nat) : Int) = fl := by omega
    have e2 : ((cas.toNat : Nat) : Int) = cas := by omega
    have e3 : decide (5 ≤ i) = false := by simp; omega
    simp [doR, stC, Cd.zero, e1, e2, e3, show (i < 5) = True from by simp; omega]
  rw [hdo] at p1
  have y1 : (((1 : Nat) : Int) == 1) = true := rfl
  have y2 : (0 : Int) < ((1 : Nat) : Int) := by decide
  have hJ2 : joinW [stN i, key, Lib.decDigits fl.toNat, Lib.decDigits exp.toNat, Lib.decDigits val.length] = stJ i key val fl.toNat exp cas.toNat false := hJ
  obtain ⟨J, hJJ⟩ : ∃ J, stJ i key val fl.toNat exp cas.toNat false = J := ⟨_, rfl⟩
  obtain ⟨B, hBB⟩ : ∃ B, stB i key val fl.toNat exp cas.toNat false = B := ⟨_, rfl⟩
  rw [hJJ] at hJ hJ2 hB jl bl p2 p3 pt
  rw [hBB] at hB bl p1 p3 pt
  obtain ⟨N, hN⟩ : ∃ N, B.length = N := ⟨_, rfl⟩
  rw [hN] at bl p1 p3 pt
  have wN : IntKind.i64.wrap ((N : Int) - 1) = ((N - 1 : Nat) : Int) := by rw [IntKind.wrap_i64]; omega
  have tk : List.drop (Int.toNat 0) (List.take (N - 1) B) = J ++ [13, 10] ++ (val ++ [13]) := pt
  have i5 : (i : Int).tmod 5 = stMode i := by
    rw [Int.tmod_eq_emod_of_nonneg (by omega)]
    unfold stMode
    split <;> omega
  have wm : IntKind.i64.wrap (stMode i) = stMode i := by rw [IntKind.wrap_i64]; unfold stMode; split <;> omega
  have y3 : ((N : Int) == (N : Int)) = true := by simp
  have ub : Tryz.prog.underlying 4 = some .bool := Tryz.underlying4
  have lN : (J ++ [13, 10] ++ (val ++ [13])).length = N - 1 := by simp only [List.length_append, List.length_cons, List.length_nil]; omega
  (refine VT_ok hctr (rs := res6) true 300 _ _ _ ?_; simp (maxSteps := 1000000) only [VT, jf, jg, jZ, ja, jd, je, VC, qA, qB, qC, qD, qE, qF, qG, qH, qI, qJ, qK, qL, qM, qN, qO, qP, qQ, qR, qS, qT, qU, qV, qW, qX, qY, qZ, qe, qf, qg, qh, qj, qk, ql, qm, qn, qo, qp, qq, qt, qu, qv, ev, qw, qy, qz, zA, zB, zC, zD, zE, zF, zG, zH, zI, zJ, TE.sv, zK, zL, zM, ↓reduceIte, reduceCtorEq, Value.oneCell', Nat.reduceEqDiff, Nat.reduceAdd, Nat.reduceLT, Nat.reduceBEq, Nat.reduceSub, Nat.reduceLeDiff, zP, zQ, zR, zS, zT, zU, zV, zW, zX, zY, zZ, za, zb, zc, zd, ze, zf, zg, zh, zi, zj, zk, zl, zm, zn, zo, zp, zq, zr, zt, zu, zw, zx, zy, zz, cE, jA, jB, hap, killE, deadOf, rwE, cD, cO, jC, jD, jE, jF, jG, jH, jI, jJ, jK, jL, jM, jN, jO, jP, jQ, jR, jS, jT, jU, jV, jW, jX, jY, hP, hk, res6, kp6, swC, lwC, rowKeyB, rowText, rowJoinR, strsOf, hkl, hkey, s0', s1', sv', sn', c0', hi, wi, w3, w4, wf, wv, hwS, b5])
  repeat (refine ⟨by (first | omega | (simp only [List.length_append, List.length_cons, List.length_nil]; omega)), ?_⟩)
  (refine Run_drawD hctr (by rw [hP]; rfl) rs6_10 [] (ensure_type_of% (Cmp.of (by simp (maxSteps := 1000000) only [VC, qA, qB, qC, qD, qE, qF, qG, qH, qI, qJ, qK, qL, qM, qN, qO, qP, qQ, qR, qS, qT, qU, qV, qW, qX, qY, qZ, qe, qf, qg, qh, qj, qk, ql, qm, qn, qo, qp, qq, qt, qu, qv, ev, qw, qy, qz, zA, zB, zC, zD, zE, zF, zG, zH, zI, zJ, TE.sv, zK, zL, zM, ↓reduceIte, reduceCtorEq, Value.oneCell', Nat.reduceEqDiff, Nat.reduceAdd, Nat.reduceLT, Nat.reduceBEq, Nat.reduceSub, Nat.reduceLeDiff, zP, zQ, zR, zS, zT, zU, zV, zW, zX, zY, zZ, za, zb, zc, zd, ze, zf, zg, zh, zi, zj, zk, zl, zm, zn, zo, zp, zq, zr, zt, zu, zw, zx, zy, zz, cE, jA, jB, hap, killE, deadOf, rwE, cD, cO, jC, jD, jE, jF, jG, jH, jI, jJ, jK, jL, jM, jN, jO, jP, jQ, jR, jS, jT, jU, jV, jW, jX, jY, hP, swC, lwC, rowKeyB, rowText, rowJoinR, strsOf, hkl, hkey, s0', s1', sv', sn', c0', hi, wi, w3, w4, wf, wv, hwS, b5, hix, hi0, hi6, hi6', f0, f64, v0, v64, Int.toNat_natCast, Nat.mul_one, Nat.zero_add, hJ, hJ2, hB]; rfl)) "" Cmp.mk) (by kernel_rfl) (by kernel_rfl) (by first | exact lenB_one _ | kernel_rfl) (by kernel_rfl) (by rfl) (by rfl) (by first | exact firstN_self _ | rfl) (by rfl) (by simp (maxSteps := 1000000) only [VC, qA, qB, qC, qD, qE, qF, qG, qH, qI, qJ, qK, qL, qM, qN, qO, qP, qQ, qR, qS, qT, qU, qV, qW, qX, qY, qZ, qe, qf, qg, qh, qj, qk, ql, qm, qn, qo, qp, qq, qt, qu, qv, ev, qw, qy, qz, zA, zB, zC, zD, zE, zF, zG, zH, zI, zJ, TE.sv, zK, zL, zM, ↓reduceIte, reduceCtorEq, Value.oneCell', Nat.reduceEqDiff, Nat.reduceAdd, Nat.reduceLT, Nat.reduceBEq, Nat.reduceSub, Nat.reduceLeDiff, zP, zQ, zR, zS, zT, zU, zV, zW, zX, zY, zZ, za, zb, zc, zd, ze, zf, zg, zh, zi, zj, zk, zl, zm, zn, zo, zp, zq, zr, zt, zu, zw, zx, zy, zz, cE, jA, jB, hap, killE, deadOf, rwE, cD, cO, jC, jD, jE, jF, jG, jH, jI, jJ, jK, jL, jM, jN, jO, jP, jQ, jR, jS, jT, jU, jV, jW, jX, jY, hP, swC, lwC, rowKeyB, rowText, rowJoinR, strsOf, hkl, hkey, s0', s1', sv', sn', c0', hi, wi, w3, w4, wf, wv, hwS, b5, hix, hi0, hi6, hi6', f0, f64, v0, v64, Int.toNat_natCast, Nat.mul_one, Nat.zero_add, hJ, hJ2, hB]) ?_; refine VT_ok hctr (rs := res6) true 300 _ _ _ ?_; simp (maxSteps := 1000000) only [VT, jf, jg, jZ, ja, jd, je, VC, qA, qB, qC, qD, qE, qF, qG, qH, qI, qJ, qK, qL, qM, qN, qO, qP, qQ, qR, qS, qT, qU, qV, qW, qX, qY, qZ, qe, qf, qg, qh, qj, qk, ql, qm, qn, qo, qp, qq, qt, qu, qv, ev, qw, qy, qz, zA, zB, zC, zD, zE, zF, zG, zH, zI, zJ, TE.sv, zK, zL, zM, ↓reduceIte, reduceCtorEq, Value.oneCell', Nat.reduceEqDiff, Nat.reduceAdd, Nat.reduceLT, Nat.reduceBEq, Nat.reduceSub, Nat.reduceLeDiff, zP, zQ, zR, zS, zT, zU, zV, zW, zX, zY, zZ, za, zb, zc, zd, ze, zf, zg, zh, zi, zj, zk, zl, zm, zn, zo, zp, zq, zr, zt, zu, zw, zx, zy, zz, cE, jA, jB, hap, killE, deadOf, rwE, cD, cO, jC, jD, jE, jF, jG, jH, jI, jJ, jK, jL, jM, jN, jO, jP, jQ, jR, jS, jT, jU, jV, jW, jX, jY, hP, hk, res6, kp6, swC, lwC, rowKeyB, rowText, rowJoinR, strsOf, hkl, hkey, s0', s1', sv', sn', c0', hi, wi, w3, w4, wf, wv, hwS, b5, hix, hi0, hi6, hi6', f0, f64, v0, v64, Int.toNat_natCast, Nat.mul_one, Nat.zero_add, hJ, hJ2, hB])
  repeat (refine ⟨by (first | omega | (simp only [List.length_append, List.length_cons, List.length_nil]; omega)), ?_⟩)
  refine Run_parse _ p1 (by simp only [List.length_append, List.length_cons, List.length_nil]; omega) hP hE (by rw [hn0]; exact Nat.zero_le _) (by rfl) (by simp) ?_
  (refine VT_ok hctr (rs := res6) true 300 _ _ _ ?_; simp (maxSteps := 1000000) only [VT, jf, jg, jZ, ja, jd, je, VC, qA, qB, qC, qD, qE, qF, qG, qH, qI, qJ, qK, qL, qM, qN, qO, qP, qQ, qR, qS, qT, qU, qV, qW, qX, qY, qZ, qe, qf, qg, qh, qj, qk, ql, qm, qn, qo, qp, qq, qt, qu, qv, ev, qw, qy, qz, zA, zB, zC, zD, zE, zF, zG, zH, zI, zJ, TE.sv, zK, zL, zM, ↓reduceIte, reduceCtorEq, Value.oneCell', Nat.reduceEqDiff, Nat.reduceAdd, Nat.reduceLT, Nat.reduceBEq, Nat.reduceSub, Nat.reduceLeDiff, zP, zQ, zR, zS, zT, zU, zV, zW, zX, zY, zZ, za, zb, zc, zd, ze, zf, zg, zh, zi, zj, zk, zl, zm, zn, zo, zp, zq, zr, zt, zu, zw, zx, zy, zz, cE, jA, jB, hap, killE, deadOf, rwE, cD, cO, jC, jD, jE, jF, jG, jH, jI, jJ, jK, jL, jM, jN, jO, jP, jQ, jR, jS, jT, jU, jV, jW, jX, jY, hP, hk, res6, kp6, swC, lwC, rowKeyB, rowText, rowJoinR, strsOf, hkl, hkey, s0', s1', sv', sn', c0', hi, wi, w3, w4, wf, wv, hwS, b5, psV, psE, rqS, badR, Rq.zero, hN, wN, tk, Int.toNat_natCast, hi0])
  repeat (refine ⟨by (first | omega | (simp only [List.length_append, List.length_cons, List.length_nil]; omega)), ?_⟩)
  refine Run_parse _ p2 (by simp only [List.length_append, List.length_cons, List.length_nil]; omega) hP hE (by rw [hn0]; exact Nat.zero_le _) (by rfl) (by simp) ?_
  (refine VT_ok hctr (rs := res6) true 300 _ _ _ ?_; simp (maxSteps := 1000000) only [VT, jf, jg, jZ, ja, jd, je, VC, qA, qB, qC, qD, qE, qF, qG, qH, qI, qJ, qK, qL, qM, qN, qO, qP, qQ, qR, qS, qT, qU, qV, qW, qX, qY, qZ, qe, qf, qg, qh, qj, qk, ql, qm, qn, qo, qp, qq, qt, qu, qv, ev, qw, qy, qz, zA, zB, zC, zD, zE, zF, zG, zH, zI, zJ, TE.sv, zK, zL, zM, ↓reduceIte, reduceCtorEq, Value.oneCell', Nat.reduceEqDiff, Nat.reduceAdd, Nat.reduceLT, Nat.reduceBEq, Nat.reduceSub, Nat.reduceLeDiff, zP, zQ, zR, zS, zT, zU, zV, zW, zX, zY, zZ, za, zb, zc, zd, ze, zf, zg, zh, zi, zj, zk, zl, zm, zn, zo, zp, zq, zr, zt, zu, zw, zx, zy, zz, cE, jA, jB, hap, killE, deadOf, rwE, cD, cO, jC, jD, jE, jF, jG, jH, jI, jJ, jK, jL, jM, jN, jO, jP, jQ, jR, jS, jT, jU, jV, jW, jX, jY, hP, hk, res6, kp6, swC, lwC, rowKeyB, rowText, rowJoinR, strsOf, hkl, hkey, s0', s1', sv', sn', c0', hi, wi, w3, w4, wf, wv, hwS, b5, psV, psE, rqS, badR, Rq.zero, hN, wN, tk, Int.toNat_natCast, hi0])
  repeat (refine ⟨by (first | omega | (simp only [List.length_append, List.length_cons, List.length_nil]; omega)), ?_⟩)
  refine Run_parse _ p3 (by simp only [List.length_append, List.length_cons, List.length_nil]; omega) hP hE (by rw [hn0]; exact Nat.zero_le _) (by rfl) (by simp) ?_
  (refine VT_ok hctr (rs := res6) true 400 _ _ _ ?_; simp (maxSteps := 1000000) only [VT, jf, jg, jZ, ja, jd, je, VC, qA, qB, qC, qD, qE, qF, qG, qH, qI, qJ, qK, qL, qM, qN, qO, qP, qQ, qR, qS, qT, qU, qV, qW, qX, qY, qZ, qe, qf, qg, qh, qj, qk, ql, qm, qn, qo, qp, qq, qt, qu, qv, ev, qw, qy, qz, zA, zB, zC, zD, zE, zF, zG, zH, zI, zJ, TE.sv, zK, zL, zM, ↓reduceIte, reduceCtorEq, Value.oneCell', Nat.reduceEqDiff, Nat.reduceAdd, Nat.reduceLT, Nat.reduceBEq, Nat.reduceSub, Nat.reduceLeDiff, zP, zQ, zR, zS, zT, zU, zV, zW, zX, zY, zZ, za, zb, zc, zd, ze, zf, zg, zh, zi, zj, zk, zl, zm, zn, zo, zp, zq, zr, zt, zu, zw, zx, zy, zz, cE, jA, jB, hap, killE, deadOf, rwE, cD, cO, jC, jD, jE, jF, jG, jH, jI, jJ, jK, jL, jM, jN, jO, jP, jQ, jR, jS, jT, jU, jV, jW, jX, jY, hP, hk, res6, kp6, swC, lwC, rowKeyB, rowText, rowJoinR, strsOf, hkl, hkey, s0', s1', sv', sn', c0', hi, wi, w3, w4, wf, wv, hwS, b5, psV, psE, rqS, badR, Rq.zero, hN, wN, tk, Int.toNat_natCast, hi0, i5, wm, y1, y2, y3, rwE, flatG, rcS, steq_cm, List.flatMap_cons, List.flatMap_nil, List.append_nil, List.length_cons, List.length_nil, beq_self_eq_true, bne_self_eq_false, true_and, Int.toNat_zero, Nat.zero_mul, Nat.zero_add])
  refine ⟨by decide, ?_⟩
  (refine Run_drawD hctr (by rw [hP]; rfl) rs6_23 [] (ensure_type_of% (Cmp.of (by simp (maxSteps := 1000000) only [VC, qA, qB, qC, qD, qE, qF, qG, qH, qI, qJ, qK, qL, qM, qN, qO, qP, qQ, qR, qS, qT, qU, qV, qW, qX, qY, qZ, qe, qf, qg, qh, qj, qk, ql, qm, qn, qo, qp, qq, qt, qu, qv, ev, qw, qy, qz, zA, zB, zC, zD, zE, zF, zG, zH, zI, zJ, TE.sv, zK, zL, zM, ↓reduceIte, reduceCtorEq, Value.oneCell', Nat.reduceEqDiff, Nat.reduceAdd, Nat.reduceLT, Nat.reduceBEq, Nat.reduceSub, Nat.reduceLeDiff, zP, zQ, zR, zS, zT, zU, zV, zW, zX, zY, zZ, za, zb, zc, zd, ze, zf, zg, zh, zi, zj, zk, zl, zm, zn, zo, zp, zq, zr, zt, zu, zw, zx, zy, zz, cE, jA, jB, hap, killE, deadOf, rwE, cD, cO, jC, jD, jE, jF, jG, jH, jI, jJ, jK, jL, jM, jN, jO, jP, jQ, jR, jS, jT, jU, jV, jW, jX, jY, hP, swC, lwC, rowKeyB, rowText, rowJoinR, strsOf, hkl, hkey, s0', s1', sv', sn', c0', hi, wi, w3, w4, wf, wv, hwS, b5, psV, psE, rqS, badR, Rq.zero, hN, wN, tk, Int.toNat_natCast, hi0, i5, wm, y1, y2, y3, rwE, flatG, rcS, steq_cm, List.flatMap_cons, List.flatMap_nil, List.append_nil, List.length_cons, List.length_nil, beq_self_eq_true, bne_self_eq_false, true_and, Int.toNat_zero, Nat.zero_mul, Nat.zero_add, Bool.and_self, Bool.and_true, Bool.true_and, Bool.not_false, Bool.not_true, Int.le_refl, ub]; rfl)) "" Cmp.mk) (by kernel_rfl) (by kernel_rfl) (by first | exact lenB_one _ | kernel_rfl) (by kernel_rfl) (by rfl) (by rfl) (by first | exact firstN_self _ | rfl) (by rfl) (by simp (maxSteps := 1000000) only [VC, qA, qB, qC, qD, qE, qF, qG, qH, qI, qJ, qK, qL, qM, qN, qO, qP, qQ, qR, qS, qT, qU, qV, qW, qX, qY, qZ, qe, qf, qg, qh, qj, qk, ql, qm, qn, qo, qp, qq, qt, qu, qv, ev, qw, qy, qz, zA, zB, zC, zD, zE, zF, zG, zH, zI, zJ, TE.sv, zK, zL, zM, ↓reduceIte, reduceCtorEq, Value.oneCell', Nat.reduceEqDiff, Nat.reduceAdd, Nat.reduceLT, Nat.reduceBEq, Nat.reduceSub, Nat.reduceLeDiff, zP, zQ, zR, zS, zT, zU, zV, zW, zX, zY, zZ, za, zb, zc, zd, ze, zf, zg, zh, zi, zj, zk, zl, zm, zn, zo, zp, zq, zr, zt, zu, zw, zx, zy, zz, cE, jA, jB, hap, killE, deadOf, rwE, cD, cO, jC, jD, jE, jF, jG, jH, jI, jJ, jK, jL, jM, jN, jO, jP, jQ, jR, jS, jT, jU, jV, jW, jX, jY, hP, swC, lwC, rowKeyB, rowText, rowJoinR, strsOf, hkl, hkey, s0', s1', sv', sn', c0', hi, wi, w3, w4, wf, wv, hwS, b5, psV, psE, rqS, badR, Rq.zero, hN, wN, tk, Int.toNat_natCast, hi0, i5, wm, y1, y2, y3, rwE, flatG, rcS, steq_cm, List.flatMap_cons, List.flatMap_nil, List.append_nil, List.length_cons, List.length_nil, beq_self_eq_true, bne_self_eq_false, true_and, Int.toNat_zero, Nat.zero_mul, Nat.zero_add, Bool.and_self, Bool.and_true, Bool.true_and, Bool.not_false, Bool.not_true, Int.le_refl, ub]) ?_; refine VT_ok hctr (rs := res6) true 400 _ _ _ ?_; simp (maxSteps := 1000000) only [VT, jf, jg, jZ, ja, jd, je, VC, qA, qB, qC, qD, qE, qF, qG, qH, qI, qJ, qK, qL, qM, qN, qO, qP, qQ, qR, qS, qT, qU, qV, qW, qX, qY, qZ, qe, qf, qg, qh, qj, qk, ql, qm, qn, qo, qp, qq, qt, qu, qv, ev, qw, qy, qz, zA, zB, zC, zD, zE, zF, zG, zH, zI, zJ, TE.sv, zK, zL, zM, ↓reduceIte, reduceCtorEq, Value.oneCell', Nat.reduceEqDiff, Nat.reduceAdd, Nat.reduceLT, Nat.reduceBEq, Nat.reduceSub, Nat.reduceLeDiff, zP, zQ, zR, zS, zT, zU, zV, zW, zX, zY, zZ, za, zb, zc, zd, ze, zf, zg, zh, zi, zj, zk, zl, zm, zn, zo, zp, zq, zr, zt, zu, zw, zx, zy, zz, cE, jA, jB, hap, killE, deadOf, rwE, cD, cO, jC, jD, jE, jF, jG, jH, jI, jJ, jK, jL, jM, jN, jO, jP, jQ, jR, jS, jT, jU, jV, jW, jX, jY, hP, hk, res6, kp6, swC, lwC, rowKeyB, rowText, rowJoinR, strsOf, hkl, hkey, s0', s1', sv', sn', c0', hi, wi, w3, w4, wf, wv, hwS, b5, psV, psE, rqS, badR, Rq.zero, hN, wN, tk, Int.toNat_natCast, hi0, i5, wm, y1, y2, y3, rwE, flatG, rcS, steq_cm, List.flatMap_cons, List.flatMap_nil, List.append_nil, List.length_cons, List.length_nil, beq_self_eq_true, bne_self_eq_false, true_and, Int.toNat_zero, Nat.zero_mul, Nat.zero_add, Bool.and_self, Bool.and_true, Bool.true_and, Bool.not_false, Bool.not_true, Int.le_refl, ub])
  exact fin _
theorem sto_tfff (key val : List UInt8) (fl exp cas name : Int) (hkey : keyB key = true) (s0 : ¬ exp < -1099511627776) (s1 : ¬ 1099511627776 < exp) (hv : val.length ≤ 65536) (sn : exp < 0) (f0 : 0 ≤ fl) (f1 : fl < 4294967296) (n0 : 0 ≤ cas) (n1 : cas < 18446744073709551616) (c0 : ¬ name < 0) (cn : -9223372036854775808 ≤ name) (cm : name ≤ 9223372036854775807) {i : Nat} (hi : name.tmod 6 = (i : Int)) (hi5 : i < 5) (w : World) (hE0 : EnvT w) :
    Calls Tryz.prog 6 #[.string ⟨key.toArray⟩, .int .u32 fl, .int .i64 exp, .string ⟨val.toArray⟩, .int .u64 cas, .int .i64 name, .bool false] w fun e w' => e = .returned (.bool true) ∧ Below w.heap.size w w' := by
  refine calls_of_Run Tryz.func6 rfl kp6 (S := Non) (ρ := fun _ => reOf 0) (en := []) [.c (.s key), .c (.i .u32 fl), .c (.i .i64 exp), .c (.s val), .c (.i .u64 cas), .c (.i .i64 name), .c (.b false)] Tryz.ntmps6 (At.nil _ _ _) (by simp [SV.wf, SC.wf]) (by simp) ?_
  intro C hC hP hk
  have hE : ∀ w', Upd C.S C.w0 w' → EnvT w' := fun w' hu => by rw [hC] at hu; exact hE0.below hu.to_below
  have hctr := swC_ok hP hE
  have hn0 : C.n0 = 0 := by rw [hC]; rfl
  have fin : ∀ en, Fin C res6 (.c (.b true)) en := fun en => Fin_ro (v := .c (.b true)) hC hres6 rfl trivial
  have s0' : decide (exp < -1099511627776) = false := decide_eq_false s0
  have s1' : decide (1099511627776 < exp) = false := decide_eq_false s1
  have sv' : decide (65536 < ((val.length : Nat) : Int)) = false := decide_eq_false (by omega)
  have sn' : decide (exp < 0) = true := decide_eq_true sn
  have c0' : decide (name < 0) = false := decide_eq_false c0
  have kl := key_le hkey
  have dl1 := dec_len_le (-exp).toNat (by omega)
  have dl2 := dec_len_le fl.toNat (by omega)
  have dl3 := dec_len_le cas.toNat (by omega)
  have hkl : key.length ≤ 9223372036854775807 := by omega
  have wx : 0 ≤ IntKind.u64.wrap exp := by rw [IntKind.wrap_u64]; omega
  have wx2 : IntKind.u64.wrap exp < 18446744073709551616 := by rw [IntKind.wrap_u64]; omega
  have hwS : IntKind.u64.wrap (IntKind.i64.wrap (0 - exp)) = -exp := by rw [IntKind.wrap_i64, IntKind.wrap_u64]; omega
  have wf : IntKind.u64.wrap fl = fl := by rw [IntKind.wrap_u64]; omega
  have wv : IntKind.u64.wrap ((val.length : Nat) : Int) = ((val.length : Nat) : Int) := by rw [IntKind.wrap_u64]; omega
  have f64 : fl < 18446744073709551616 := by omega
  have v64 : ((val.length : Nat) : Int) < 18446744073709551616 := by omega
  have v0 : (0 : Int) ≤ ((val.length : Nat) : Int) := by omega
  have sp : 0 ≤ -exp := by omega
  have tn : -exp < 18446744073709551616 := by omega
  have hix := stN_ix (i := i) (by omega)
  have hi6 : (i : Int) < 6 := by omega
  have hi0 : (0 : Int) ≤ (i : Int) := by omega
  have hi6' : (i : Int) < ((6 : Nat) : Int) := by omega
  have wi : IntKind.i64.wrap (i : Int) = (i : Int) := by rw [IntKind.wrap_i64]; omega
  have b5 : ((i : Int) == 5) = false := by simp only [beq_eq_false_iff_ne, ne_eq]; omega
  have hs : secText exp = [45] ++ Lib.decDigits (-exp).toNat := if_pos sn
  have hJ : joinW [stN i, key, Lib.decDigits fl.toNat, [45] ++ Lib.decDigits (-exp).toNat, Lib.decDigits val.length] = stJ i key val fl.toNat exp cas.toNat false := by
    unfold joinW
    rw [join_B]
    unfold stJ
    rw [show stW i key fl.toNat exp val.length cas.toNat = [key, Lib.decDigits fl.toNat, secText exp, Lib.decDigits val.length] from if_pos (by omega), hs]; rfl
  have jl := stJ_len (i := i) (key := key) (val := val) (fl := fl.toNat) (cas := cas.toNat) (exp := exp) hkey (by omega) (by omega) (by omega) hv (by omega) false
  have bl := st_len i key val fl.toNat exp cas.toNat false
  have p1 := ps_st1 (i := i) (key := key) (val := val) (fl := fl.toNat) (cas := cas.toNat) (exp := exp) hkey (by omega) (by omega) (by omega) hv (by omega) false
  have p2 := ps_st2 (i := i) (key := key) (val := val) (fl := fl.toNat) (cas := cas.toNat) (exp := exp) hkey (by omega) (by omega) (by omega) hv (by omega) false
  have p3 := ps_st3 (i := i) (key := key) (val := val) (fl := fl.toNat) (cas := cas.toNat) (exp := exp) hkey (by omega) (by omega) (by omega) hv (by omega) false
  have pt := st_take i key val fl.toNat exp cas.toNat false
  have hB : stJ i key val fl.toNat exp cas.toNat false ++ [13, 10] ++ val ++ [13, 10] = stB i key val fl.toNat exp cas.toNat false := rfl
  have hdo : doR [stC i key val fl.toNat exp cas.toNat] false = ⟨1, [⟨2, stMode i, key, val, fl, exp, false, 0, false, 0, 0, false, false, 0, -1, false⟩], false, false, [], [], 0, false, []⟩ := by
    have e1 : ((fl.toNat : Nat) : Int) = fl := by omega
    have e2 : ((cas.toNat : Nat) : Int) = cas := by omega
    have e3 : decide (5 ≤ i) = false := by simp; omega
    simp [doR, stC, Cd.zero, e1, e2, e3, show (i < 5) = True from by simp; omega]
  rw [hdo] at p1
  have y1 : (((1 : Nat) : Int) == 1) = true := rfl
  have y2 : (0 : Int) < ((1 : Nat) : Int) := by decide
  have hJ2 : joinW [stN i, key, Lib.decDigits fl.toNat, 45 :: Lib.decDigits (-exp).toNat, Lib.decDigits val.length] = stJ i key val fl.toNat exp cas.toNat false := hJ
  obtain ⟨J, hJJ⟩ : ∃ J, stJ i key val fl.toNat exp cas.toNat false = J := ⟨_, rfl⟩
  obtain ⟨B, hBB⟩ : ∃ B, stB i key val fl.toNat exp cas.toNat false = B := ⟨_, rfl⟩
  rw [hJJ] at hJ hJ2 hB jl bl p2 p3 pt
  rw [hBB] at hB bl p1 p3 pt
  obtain ⟨N, hN⟩ : ∃ N, B.length = N := ⟨_, rfl⟩
  rw [hN] at bl p1 p3 pt
  have wN : IntKind.i64.wrap ((N : Int) - 1) = ((N - 1 : Nat) : Int) := by rw [IntKind.wrap_i64]; omega
  have tk : List.drop (Int.toNat 0) (List.take (N - 1) B) = J ++ [13, 10] ++ (val ++ [13]) := pt
  have i5 : (i : Int).tmod 5 = stMode i := by
    rw [Int.tmod_eq_emod_of_nonneg (by omega)]
    unfold stMode
    split <;> omega
  have wm : IntKind.i64.wrap (stMode i) = stMode i := by rw [IntKind.wrap_i64]; unfold stMode; split <;> omega
  have y3 : ((N : Int) == (N : Int)) = true := by simp
  have ub : Tryz.prog.underlying 4 = some .bool := Tryz.underlying4
  have lN : (J ++ [13, 10] ++ (val ++ [13])).length = N - 1 := by simp only [List.length_append, List.length_cons, List.length_nil]; omega
  (refine VT_ok hctr (rs := res6) true 300 _ _ _ ?_; simp (maxSteps := 1000000) only [VT, jf, jg, jZ, ja, jd, je, VC, qA, qB, qC, qD, qE, qF, qG, qH, qI, qJ, qK, qL, qM, qN, qO, qP, qQ, qR, qS, qT, qU, qV, qW, qX, qY, qZ, qe, qf, qg, qh, qj, qk, ql, qm, qn, qo, qp, qq, qt, qu, qv, ev, qw, qy, qz, zA, zB, zC, zD, zE, zF, zG, zH, zI, zJ, TE.sv, zK, zL, zM, ↓reduceIte, reduceCtorEq, Value.oneCell', Nat.reduceEqDiff, Nat.reduceAdd, Nat.reduceLT, Nat.reduceBEq, Nat.reduceSub, Nat.reduceLeDiff, zP, zQ, zR, zS, zT, zU, zV, zW, zX, zY, zZ, za, zb, zc, zd, ze, zf, zg, zh, zi, zj, zk, zl, zm, zn, zo, zp, zq, zr, zt, zu, zw, zx, zy, zz, cE, jA, jB, hap, killE, deadOf, rwE, cD, cO, jC, jD, jE, jF, jG, jH, jI, jJ, jK, jL, jM, jN, jO, jP, jQ, jR, jS, jT, jU, jV, jW, jX, jY, hP, hk, res6, kp6, swC, lwC, rowKeyB, rowText, rowJoinR, strsOf, hkl, hkey, s0', s1', sv', sn', c0', hi, wi, wf, wv, hwS, b5])
  repeat (refine ⟨by (first | omega | (simp only [List.length_append, List.length_cons, List.length_nil]; omega)), ?_⟩)
  (refine Run_drawD hctr (by rw [hP]; rfl) rs6_10 [] (ensure_type_of% (Cmp.of (by simp (maxSteps := 1000000) only [VC, qA, qB, qC, qD, qE, qF, qG, qH, qI, qJ, qK, qL, qM, qN, qO, qP, qQ, qR, qS, qT, qU, qV, qW, qX, qY, qZ, qe, qf, qg, qh, qj, qk, ql, qm, qn, qo, qp, qq, qt, qu, qv, ev, qw, qy, qz, zA, zB, zC, zD, zE, zF, zG, zH, zI, zJ, TE.sv, zK, zL, zM, ↓reduceIte, reduceCtorEq, Value.oneCell', Nat.reduceEqDiff, Nat.reduceAdd, Nat.reduceLT, Nat.reduceBEq, Nat.reduceSub, Nat.reduceLeDiff, zP, zQ, zR, zS, zT, zU, zV, zW, zX, zY, zZ, za, zb, zc, zd, ze, zf, zg, zh, zi, zj, zk, zl, zm, zn, zo, zp, zq, zr, zt, zu, zw, zx, zy, zz, cE, jA, jB, hap, killE, deadOf, rwE, cD, cO, jC, jD, jE, jF, jG, jH, jI, jJ, jK, jL, jM, jN, jO, jP, jQ, jR, jS, jT, jU, jV, jW, jX, jY, hP, swC, lwC, rowKeyB, rowText, rowJoinR, strsOf, hkl, hkey, s0', s1', sv', sn', c0', hi, wi, wf, wv, hwS, b5, hix, hi0, hi6, hi6', f0, f64, v0, v64, Int.toNat_natCast, Nat.mul_one, Nat.zero_add, hJ, hJ2, hB]; rfl)) "" Cmp.mk) (by kernel_rfl) (by kernel_rfl) (by first | exact lenB_one _ | kernel_rfl) (by kernel_rfl) (by rfl) (by rfl) (by first | exact firstN_self _ | rfl) (by rfl) (by simp (maxSteps := 1000000) only [VC, qA, qB, qC, qD, qE, qF, qG, qH, qI, qJ, qK, qL, qM, qN, qO, qP, qQ, qR, qS, qT, qU, qV, qW, qX, qY, qZ, qe, qf, qg, qh, qj, qk, ql, qm, qn, qo, qp, qq, qt, qu, qv, ev, qw, qy, qz, zA, zB, zC, zD, zE, zF, zG, zH, zI, zJ, TE.sv, zK, zL, zM, ↓reduceIte, reduceCtorEq, Value.oneCell', Nat.reduceEqDiff, Nat.reduceAdd, Nat.reduceLT, Nat.reduceBEq, Nat.reduceSub, Nat.reduceLeDiff, zP, zQ, zR, zS, zT, zU, zV, zW, zX, zY, zZ, za, zb, zc, zd, ze, zf, zg, zh, zi, zj, zk, zl, zm, zn, zo, zp, zq, zr, zt, zu, zw, zx, zy, zz, cE, jA, jB, hap, killE, deadOf, rwE, cD, cO, jC, jD, jE, jF, jG, jH, jI, jJ, jK, jL, jM, jN, jO, jP, jQ, jR, jS, jT, jU, jV, jW, jX, jY, hP, swC, lwC, rowKeyB, rowText, rowJoinR, strsOf, hkl, hkey, s0', s1', sv', sn', c0', hi, wi, wf, wv, hwS, b5, hix, hi0, hi6, hi6', f0, f64, v0, v64, Int.toNat_natCast, Nat.mul_one, Nat.zero_add, hJ, hJ2, hB]) ?_; refine VT_ok hctr (rs := res6) true 300 _ _ _ ?_; simp (maxSteps := 1000000) only [VT, jf, jg, jZ, ja, jd, je, VC, qA, qB, qC, qD, qE, qF, qG, qH, qI, qJ, qK, qL, qM, qN, qO, qP, qQ, qR, qS, qT, qU, qV, qW, qX, qY, qZ, qe, qf, qg, qh, qj, qk, ql, qm, qn, qo, qp, qq, qt, qu, qv, ev, qw, qy, qz, zA, zB, zC, zD, zE, zF, zG, zH, zI, zJ, TE.sv, zK, zL, zM, ↓reduceIte, reduceCtorEq, Value.oneCell', Nat.reduceEqDiff, Nat.reduceAdd, Nat.reduceLT, Nat.reduceBEq, Nat.reduceSub, Nat.reduceLeDiff, zP, zQ, zR, zS, zT, zU, zV, zW, zX, zY, zZ, za, zb, zc, zd, ze, zf, zg, zh, zi, zj, zk, zl, zm, zn, zo, zp, zq, zr, zt, zu, zw, zx, zy, zz, cE, jA, jB, hap, killE, deadOf, rwE, cD, cO, jC, jD, jE, jF, jG, jH, jI, jJ, jK, jL, jM, jN, jO, jP, jQ, jR, jS, jT, jU, jV, jW, jX, jY, hP, hk, res6, kp6, swC, lwC, rowKeyB, rowText, rowJoinR, strsOf, hkl, hkey, s0', s1', sv', sn', c0', hi, wi, wf, wv, hwS, b5, hix, hi0, hi6, hi6', f0, f64, v0, v64, Int.toNat_natCast, Nat.mul_one, Nat.zero_add, hJ, hJ2, hB])
  repeat (refine ⟨by (first | omega | (simp only [List.length_append, List.length_cons, List.length_nil]; omega)), ?_⟩)
  refine Run_parse _ p1 (by simp only [List.length_append, List.length_cons, List.length_nil]; omega) hP hE (by rw [hn0]; exact Nat.zero_le _) (by rfl) (by simp) ?_
  (refine VT_ok hctr (rs := res6) true 300 _ _ _ ?_; simp (maxSteps := 1000000) only [VT, jf, jg, jZ, ja, jd, je, VC, qA, qB, qC, qD, qE, qF, qG, qH, qI, qJ, qK, qL, qM, qN, qO, qP, qQ, qR, qS, qT, qU, qV, qW, qX, qY, qZ, qe, qf, qg, qh, qj, qk, ql, qm, qn, qo, qp, qq, qt, qu, qv, ev, qw, qy, qz, zA, zB, zC, zD, zE, zF, zG, zH, zI, zJ, TE.sv, zK, zL, zM, ↓reduceIte, reduceCtorEq, Value.oneCell', Nat.reduceEqDiff, Nat.reduceAdd, Nat.reduceLT, Nat.reduceBEq, Nat.reduceSub, Nat.reduceLeDiff, zP, zQ, zR, zS, zT, zU, zV, zW, zX, zY, zZ, za, zb, zc, zd, ze, zf, zg, zh, zi, zj, zk, zl, zm, zn, zo, zp, zq, zr, zt, zu, zw, zx, zy, zz, cE, jA, jB, hap, killE, deadOf, rwE, cD, cO, jC, jD, jE, jF, jG, jH, jI, jJ, jK, jL, jM, jN, jO, jP, jQ, jR, jS, jT, jU, jV, jW, jX, jY, hP, hk, res6, kp6, swC, lwC, rowKeyB, rowText, rowJoinR, strsOf, hkl, hkey, s0', s1', sv', sn', c0', hi, wi, wf, wv, hwS, b5, psV, psE, rqS, badR, Rq.zero, hN, wN, tk, Int.toNat_natCast, hi0])
  repeat (refine ⟨by (first | omega | (simp only [List.length_append, List.length_cons, List.length_nil]; omega)), ?_⟩)
  refine Run_parse _ p2 (by simp only [List.length_append, List.length_cons, List.length_nil]; omega) hP hE (by rw [hn0]; exact Nat.zero_le _) (by rfl) (by simp) ?_
  (refine VT_ok hctr (rs := res6) true 300 _ _ _ ?_; simp (maxSteps := 1000000) only [VT, jf, jg, jZ, ja, jd, je, VC, qA, qB, qC, qD, qE, qF, qG, qH, qI, qJ, qK, qL, qM, qN, qO, qP, qQ, qR, qS, qT, qU, qV, qW, qX, qY, qZ, qe, qf, qg, qh, qj, qk, ql, qm, qn, qo, qp, qq, qt, qu, qv, ev, qw, qy, qz, zA, zB, zC, zD, zE, zF, zG, zH, zI, zJ, TE.sv, zK, zL, zM, ↓reduceIte, reduceCtorEq, Value.oneCell', Nat.reduceEqDiff, Nat.reduceAdd, Nat.reduceLT, Nat.reduceBEq, Nat.reduceSub, Nat.reduceLeDiff, zP, zQ, zR, zS, zT, zU, zV, zW, zX, zY, zZ, za, zb, zc, zd, ze, zf, zg, zh, zi, zj, zk, zl, zm, zn, zo, zp, zq, zr, zt, zu, zw, zx, zy, zz, cE, jA, jB, hap, killE, deadOf, rwE, cD, cO, jC, jD, jE, jF, jG, jH, jI, jJ, jK, jL, jM, jN, jO, jP, jQ, jR, jS, jT, jU, jV, jW, jX, jY, hP, hk, res6, kp6, swC, lwC, rowKeyB, rowText, rowJoinR, strsOf, hkl, hkey, s0', s1', sv', sn', c0', hi, wi, wf, wv, hwS, b5, psV, psE, rqS, badR, Rq.zero, hN, wN, tk, Int.toNat_natCast, hi0])
  repeat (refine ⟨by (first | omega | (simp only [List.length_append, List.length_cons, List.length_nil]; omega)), ?_⟩)
  refine Run_parse _ p3 (by simp only [List.length_append, List.length_cons, List.length_nil]; omega) hP hE (by rw [hn0]; exact Nat.zero_le _) (by rfl) (by simp) ?_
  (refine VT_ok hctr (rs := res6) true 400 _ _ _ ?_; simp (maxSteps := 1000000) only [VT, jf, jg, jZ, ja, jd, je, VC, qA, qB, qC, qD, qE, qF, qG, qH, qI, qJ, qK, qL, qM, qN, qO, qP, qQ, qR, qS, qT, qU, qV, qW, qX, qY, qZ, qe, qf, qg, qh, qj, qk, ql, qm, qn, qo, qp, qq, qt, qu, qv, ev, qw, qy, qz, zA, zB, zC, zD, zE, zF, zG, zH, zI, zJ, TE.sv, zK, zL, zM, ↓reduceIte, reduceCtorEq, Value.oneCell', Nat.reduceEqDiff, Nat.reduceAdd, Nat.reduceLT, Nat.reduceBEq, Nat.reduceSub, Nat.reduceLeDiff, zP, zQ, zR, zS, zT, zU, zV, zW, zX, zY, zZ, za, zb, zc, zd, ze, zf, zg, zh, zi, zj, zk, zl, zm, zn, zo, zp, zq, zr, zt, zu, zw, zx, zy, zz, cE, jA, jB, hap, killE, deadOf, rwE, cD, cO, jC, jD, jE, jF, jG, jH, jI, jJ, jK, jL, jM, jN, jO, jP, jQ, jR, jS, jT, jU, jV, jW, jX, jY, hP, hk, res6, kp6, swC, lwC, rowKeyB, rowText, rowJoinR, strsOf, hkl, hkey, s0', s1', sv', sn', c0', hi, wi, wf, wv, hwS, b5, psV, psE, rqS, badR, Rq.zero, hN, wN, tk, Int.toNat_natCast, hi0, i5, wm, y1, y2, y3, rwE, flatG, rcS, steq_cm, List.flatMap_cons, List.flatMap_nil, List.append_nil, List.length_cons, List.length_nil, beq_self_eq_true, bne_self_eq_false, true_and, Int.toNat_zero, Nat.zero_mul, Nat.zero_add])
  refine ⟨by decide, ?_⟩
  (refine Run_drawD hctr (by rw [hP]; rfl) rs6_23 [] (ensure_type_of% (Cmp.of (by simp (maxSteps := 1000000) only [VC, qA, qB, qC, qD, qE, qF, qG, qH, qI, qJ, qK, qL, qM, qN, qO, qP, qQ, qR, qS, qT, qU, qV, qW, qX, qY, qZ, qe, qf, qg, qh, qj, qk, ql, qm, qn, qo, qp, qq, qt, qu, qv, ev, qw, qy, qz, zA, zB, zC, zD, zE, zF, zG, zH, zI, zJ, TE.sv, zK, zL, zM, ↓reduceIte, reduceCtorEq, Value.oneCell', Nat.reduceEqDiff, Nat.reduceAdd, Nat.reduceLT, Nat.reduceBEq, Nat.reduceSub, Nat.reduceLeDiff, zP, zQ, zR, zS, zT, zU, zV, zW, zX, zY, zZ, za, zb, zc, zd, ze, zf, zg, zh, zi, zj, zk, zl, zm, zn, zo, zp, zq, zr, zt, zu, zw, zx, zy, zz, cE, jA, jB, hap, killE, deadOf, rwE, cD, cO, jC, jD, jE, jF, jG, jH, jI, jJ, jK, jL, jM, jN, jO, jP, jQ, jR, jS, jT, jU, jV, jW, jX, jY, hP, swC, lwC, rowKeyB, rowText, rowJoinR, strsOf, hkl, hkey, s0', s1', sv', sn', c0', hi, wi, wf, wv, hwS, b5, psV, psE, rqS, badR, Rq.zero, hN, wN, tk, Int.toNat_natCast, hi0, i5, wm, y1, y2, y3, rwE, flatG, rcS, steq_cm, List.flatMap_cons, List.flatMap_nil, List.append_nil, List.length_cons, List.length_nil, beq_self_eq_true, bne_self_eq_false, true_and, Int.toNat_zero, Nat.zero_mul, Nat.zero_add, Bool.and_self, Bool.and_true, Bool.true_and, Bool.not_false, Bool.not_true, Int.le_refl, ub]; rfl)) "" Cmp.mk) (by kernel_rfl) (by kernel_rfl) (by first | exact lenB_one _ | kernel_rfl) (by kernel_rfl) (by rfl) (by rfl) (by first | exact firstN_self _ | rfl) (by rfl) (by simp (maxSteps := 1000000) only [VC, qA, qB, qC, qD, qE, qF, qG, qH, qI, qJ, qK, qL, qM, qN, qO, qP, qQ, qR, qS, qT, qU, qV, qW, qX, qY, qZ, qe, qf, qg, qh, qj, qk, ql, qm, qn, qo, qp, qq, qt, qu, qv, ev, qw, qy, qz, zA, zB, zC, zD, zE, zF, zG, zH, zI, zJ, TE.sv, zK, zL, zM, ↓reduceIte, reduceCtorEq, Value.oneCell', Nat.reduceEqDiff, Nat.reduceAdd, Nat.reduceLT, Nat.reduceBEq, Nat.reduceSub, Nat.reduceLeDiff, zP, zQ, zR, zS, zT, zU, zV, zW, zX, zY, zZ, za, zb, zc, zd, ze, zf, zg, zh, zi, zj, zk, zl, zm, zn, zo, zp, zq, zr, zt, zu, zw, zx, zy, zz, cE, jA, jB, hap, killE, deadOf, rwE, cD, cO, jC, jD, jE, jF, jG, jH, jI, jJ, jK, jL, jM, jN, jO, jP, jQ, jR, jS, jT, jU, jV, jW, jX, jY, hP, swC, lwC, rowKeyB, rowText, rowJoinR, strsOf, hkl, hkey, s0', s1', sv', sn', c0', hi, wi, wf, wv, hwS, b5, psV, psE, rqS, badR, Rq.zero, hN, wN, tk, Int.toNat_natCast, hi0, i5, wm, y1, y2, y3, rwE, flatG, rcS, steq_cm, List.flatMap_cons, List.flatMap_nil, List.append_nil, List.length_cons, List.length_nil, beq_self_eq_true, bne_self_eq_false, true_and, Int.toNat_zero, Nat.zero_mul, Nat.zero_add, Bool.and_self, Bool.and_true, Bool.true_and, Bool.not_false, Bool.not_true, Int.le_refl, ub]) ?_; refine VT_ok hctr (rs := res6) true 400 _ _ _ ?_; simp (maxSteps := 1000000) only [VT, jf, jg, jZ, ja, jd, je, VC, qA, qB, qC, qD, qE, qF, qG, qH, qI, qJ, qK, qL, qM, qN, qO, qP, qQ, qR, qS, qT, qU, qV, qW, qX, qY, qZ, qe, qf, qg, qh, qj, qk, ql, qm, qn, qo, qp, qq, qt, qu, qv, ev, qw, qy, qz, zA, zB, zC, zD, zE, zF, zG, zH, zI, zJ, TE.sv, zK, zL, zM, ↓reduceIte, reduceCtorEq, Value.oneCell', Nat.reduceEqDiff, Nat.reduceAdd, Nat.reduceLT, Nat.reduceBEq, Nat.reduceSub, Nat.reduceLeDiff, zP, zQ, zR, zS, zT, zU, zV, zW, zX, zY, zZ, za, zb, zc, zd, ze, zf, zg, zh, zi, zj, zk, zl, zm, zn, zo, zp, zq, zr, zt, zu, zw, zx, zy, zz, cE, jA, jB, hap, killE, deadOf, rwE, cD, cO, jC, jD, jE, jF, jG, jH, jI, jJ, jK, jL, jM, jN, jO, jP, jQ, jR, jS, jT, jU, jV, jW, jX, jY, hP, hk, res6, kp6, swC, lwC, rowKeyB, rowText, rowJoinR, strsOf, hkl, hkey, s0', s1', sv', sn', c0', hi, wi, wf, wv, hwS, b5, psV, psE, rqS, badR, Rq.zero, hN, wN, tk, Int.toNat_natCast, hi0, i5, wm, y1, y2, y3, rwE, flatG, rcS, steq_cm, List.flatMap_cons, List.flatMap_nil, List.append_nil, List.length_cons, List.length_nil, beq_self_eq_true, bne_self_eq_false, true_and, Int.toNat_zero, Nat.zero_mul, Nat.zero_add, Bool.and_self, Bool.and_true, Bool.true_and, Bool.not_false, Bool.not_true, Int.le_refl, ub])
  exact fin _
theorem sto_tfft (key val : List UInt8) (fl exp cas name : Int) (hkey : keyB key = true) (s0 : ¬ exp < -1099511627776) (s1 : ¬ 1099511627776 < exp) (hv : val.length ≤ 65536) (sn : exp < 0) (f0 : 0 ≤ fl) (f1 : fl < 4294967296) (n0 : 0 ≤ cas) (n1 : cas < 18446744073709551616) (c0 : name < 0) (cn : -9223372036854775808 ≤ name) (cm : name ≤ 9223372036854775807) {i : Nat} (hi : (-(name + 1)).tmod 6 = (i : Int)) (hi5 : i < 5) (w : World) (hE0 : EnvT w) :
    Calls Tryz.prog 6 #[.string ⟨key.toArray⟩, .int .u32 fl, .int .i64 exp, .string ⟨val.toArray⟩, .int .u64 cas, .int .i64 name, .bool false] w fun e w' => e = .returned (.bool true) ∧ Below w.heap.size w w' := by
  refine calls_of_Run Tryz.func6 rfl kp6 (S := Non) (ρ := fun _ => reOf 0) (en := []) [.c (.s key), .c (.i .u32 fl), .c (.i .i64 exp), .c (.s val), .c (.i .u64 cas), .c (.i .i64 name), .c (.b false)] Tryz.ntmps6 (At.nil _ _ _) (by simp [SV.wf, SC.wf]) (by simp) ?_
  intro C hC hP hk
  have hE : ∀ w', Upd C.S C.w0 w' → EnvT w' := fun w' hu => by rw [hC] at hu; exact hE0.below hu.to_below
  have hctr := swC_ok hP hE
  have hn0 : C.n0 = 0 := by rw [hC]; rfl
  have fin : ∀ en, Fin C res6 (.c (.b true)) en := fun en => Fin_ro (v := .c (.b true)) hC hres6 rfl trivial
  have s0' : decide (exp < -1099511627776) = false := decide_eq_false s0
  have s1' : decide (1099511627776 < exp) = false := decide_eq_false s1
  have sv' : decide (65536 < ((val.length : Nat) : Int)) = false := decide_eq_false (by omega)
  have sn' : decide (exp < 0) = true := decide_eq_true sn
  have c0' : decide (name < 0) = true := decide_eq_true c0
  have kl := key_le hkey
  have dl1 := dec_len_le (-exp).toNat (by omega)
  have dl2 := dec_len_le fl.toNat (by omega)
  have dl3 := dec_len_le cas.toNat (by omega)
  have hkl : key.length ≤ 9223372036854775807 := by omega
  have wx : 0 ≤ IntKind.u64.wrap exp := by rw [IntKind.wrap_u64]; omega
  have wx2 : IntKind.u64.wrap exp < 18446744073709551616 := by rw [IntKind.wrap_u64]; omega
  have hwS : IntKind.u64.wrap (IntKind.i64.wrap (0 - exp)) = -exp := by rw [IntKind.wrap_i64, IntKind.wrap_u64]; omega
  have wf : IntKind.u64.wrap fl = fl := by rw [IntKind.wrap_u64]; omega
  have wv : IntKind.u64.wrap ((val.length : Nat) : Int) = ((val.length : Nat) : Int) := by rw [IntKind.wrap_u64]; omega
  have f64 : fl < 18446744073709551616 := by omega
  have v64 : ((val.length : Nat) : Int) < 18446744073709551616 := by omega
  have v0 : (0 : Int) ≤ ((val.length : Nat) : Int) := by omega
  have sp : 0 ≤ -exp := by omega
  have tn : -exp < 18446744073709551616 := by omega
  have hix := stN_ix (i := i) (by omega)
  have hi6 : (i : Int) < 6 := by omega
  have hi0 : (0 : Int) ≤ (i : Int) := by omega
  have hi6' : (i : Int) < ((6 : Nat) : Int) := by omega
  have wi : IntKind.i64.wrap (i : Int) = (i : Int) := by rw [IntKind.wrap_i64]; omega
  have b5 : ((i : Int) == 5) = false := by simp only [beq_eq_false_iff_ne, ne_eq]; omega
  have hs : secText exp = [45] ++ Lib.decDigits (-exp).toNat := if_pos sn
  have hJ : joinW [stN i, key, Lib.decDigits fl.toNat, [45] ++ Lib.decDigits (-exp).toNat, Lib.decDigits val.length] = stJ i key val fl.toNat exp cas.toNat false := by
    unfold joinW
    rw [join_B]
    unfold stJ
    rw [show stW i key fl.toNat exp val.length cas.toNat = [key, Lib.decDigits fl.toNat, secText exp, Lib.decDigits val.length] from if_pos (by omega), hs]; rfl
  have jl := stJ_len (i := i) (key := key) (val := val) (fl := fl.toNat) (cas := cas.toNat) (exp := exp) hkey (by omega) (by omega) (by omega) hv (by omega) false
  have bl := st_len i key val fl.toNat exp cas.toNat false
  have p1 := ps_st1 (i := i) (key := key) (val := val) (fl := fl.toNat) (cas := cas.toNat) (exp := exp) hkey (by omega) (by omega) (by omega) hv (by omega) false
  have p2 := ps_st2 (i := i) (key := key) (val := val) (fl := fl.toNat) (cas := cas.toNat) (exp := exp) hkey (by omega) (by omega) (by omega) hv (by omega) false
  have p3 := ps_st3 (i := i) (key := key) (val := val) (fl := fl.toNat) (cas := cas.toNat) (exp := exp) hkey (by omega) (by omega) (by omega) hv (by omega) false
  have pt := st_take i key val fl.toNat exp cas.toNat false
  have w3 : IntKind.i64.wrap (name + 1) = name + 1 := by rw [IntKind.wrap_i64]; omega
  obtain ⟨v, hvv⟩ : ∃ v, -(name + 1) = v := ⟨_, rfl⟩
  have w4 : IntKind.i64.wrap (0 - (name + 1)) = v := by rw [IntKind.wrap_i64]; omega
  rw [hvv] at hi
  have hB : stJ i key val fl.toNat exp cas.toNat false ++ [13, 10] ++ val ++ [13, 10] = stB i key val fl.toNat exp cas.toNat false := rfl
  have hdo : doR [stC i key val fl.toNat exp cas.toNat] false = ⟨1, [⟨2, stMode i, key, val, fl, exp, false, 0, false, 0, 0, false, false, 0, -1, false⟩], false, false, [], [], 0, false, []⟩ := by
    have e1 : ((fl.toNat : Nat) : Int) = fl := by omega
    have e2 : ((cas.toNat : Nat) : Int) = cas := by omega
    have e3 : decide (5 ≤ i) = false := by simp; omega
    simp [doR, stC, Cd.zero, e1, e2, e3, show (i < 5) = True from by simp; omega]
  rw [hdo] at p1
  have y1 : (((1 : Nat) : Int) == 1) = true := rfl
  have y2 : (0 : Int) < ((1 : Nat) : Int) := by decide
  have hJ2 : joinW [stN i, key, Lib.decDigits fl.toNat, 45 :: Lib.decDigits (-exp).toNat, Lib.decDigits val.length] = stJ i key val fl.toNat exp cas.toNat false := hJ
  obtain ⟨J, hJJ⟩ : ∃ J, stJ i key val fl.toNat exp cas.toNat false = J := ⟨_, rfl⟩
  obtain ⟨B, hBB⟩ : ∃ B, stB i key val fl.toNat exp cas.toNat false = B := ⟨_, rfl⟩
  rw [hJJ] at hJ hJ2 hB jl bl p2 p3 pt
  rw [hBB] at hB bl p1 p3 pt
  obtain ⟨N, hN⟩ : ∃ N, B.length = N := ⟨_, rfl⟩
  rw [hN] at bl p1 p3 pt
  have wN : IntKind.i64.wrap ((N : Int) - 1) = ((N - 1 : Nat) : Int) := by rw [IntKind.wrap_i64]; omega
  have tk : List.drop (Int.toNat 0) (List.take (N - 1) B) = J ++ [13, 10] ++ (val ++ [13]) := pt
  have i5 : (i : Int).tmod 5 = stMode i := by
    rw [Int.tmod_eq_emod_of_nonneg (by omega)]
    unfold stMode
    split <;> omega
  have wm : IntKind.i64.wrap (stMode i) = stMode i := by rw [IntKind.wrap_i64]; unfold stMode; split <;> omega
  have y3 : ((N : Int) == (N : Int)) = true := by simp
  have ub : Tryz.prog.underlying 4 = some .bool := Tryz.underlying4
  have lN : (J ++ [13, 10] ++ (val ++ [13])).length = N - 1 := by simp only [List.length_append, List.length_cons, List.length_nil]; omega
  (refine VT_ok hctr (rs := res6) true 300 _ _ _ ?_; simp (maxSteps := 1000000) only [VT, jf, jg, jZ, ja, jd, je, VC, qA, qB, qC, qD, qE, qF, qG, qH, qI, qJ, qK, qL, qM, qN, qO, qP, qQ, qR, qS, qT, qU, qV, qW, qX, qY, qZ, qe, qf, qg, qh, qj, qk, ql, qm, qn, qo, qp, qq, qt, qu, qv, ev, qw, qy, qz, zA, zB, zC, zD, zE, zF, zG, zH, zI, zJ, TE.sv, zK, zL, zM, ↓reduceIte, reduceCtorEq, Value.oneCell', Nat.reduceEqDiff, Nat.reduceAdd, Nat.reduceLT, Nat.reduceBEq, Nat.reduceSub, Nat.reduceLeDiff, zP, zQ, zR, zS, zT, zU, zV, zW, zX, zY, zZ, za, zb, zc, zd, ze, zf, zg, zh, zi, zj, zk, zl, zm, zn, zo, zp, zq, zr, zt, zu, zw, zx, zy, zz, cE, jA, jB, hap, killE, deadOf, rwE, cD, cO, jC, jD, jE, jF, jG, jH, jI, jJ, jK, jL, jM, jN, jO, jP, jQ, jR, jS, jT, jU, jV, jW, jX, jY, hP, hk, res6, kp6, swC, lwC, rowKeyB, rowText, rowJoinR, strsOf, hkl, hkey, s0', s1', sv', sn', c0', hi, wi, w3, w4, wf, wv, hwS, b5])
  repeat (refine ⟨by (first | omega | (simp only [List.length_append, List.length_cons, List.length_nil]; omega)), ?_⟩)
  (refine Run_drawD hctr (by rw [hP]; rfl) rs6_10 [] (ensure_type_of% (Cmp.of (by simp (maxSteps := 1000000) only [VC, qA, qB, qC, qD, qE, qF, qG, qH, qI, qJ, qK, qL, qM, qN, qO, qP, qQ, qR, qS, qT, qU, qV, qW, qX, qY, qZ, qe, qf, qg, qh, qj, qk, ql, qm, qn, qo, qp, qq, qt, qu, qv, ev, qw, qy, qz, zA, zB, zC, zD, zE, zF, zG, zH, zI, zJ, TE.sv, zK, zL, zM, ↓reduceIte, reduceCtorEq, Value.oneCell', Nat.reduceEqDiff, Nat.reduceAdd, Nat.reduceLT, Nat.reduceBEq, Nat.reduceSub, Nat.reduceLeDiff, zP, zQ, zR, zS, zT, zU, zV, zW, zX, zY, zZ, za, zb, zc, zd, ze, zf, zg, zh, zi, zj, zk, zl, zm, zn, zo, zp, zq, zr, zt, zu, zw, zx, zy, zz, cE, jA, jB, hap, killE, deadOf, rwE, cD, cO, jC, jD, jE, jF, jG, jH, jI, jJ, jK, jL, jM, jN, jO, jP, jQ, jR, jS, jT, jU, jV, jW, jX, jY, hP, swC, lwC, rowKeyB, rowText, rowJoinR, strsOf, hkl, hkey, s0', s1', sv', sn', c0', hi, wi, w3, w4, wf, wv, hwS, b5, hix, hi0, hi6, hi6', f0, f64, v0, v64, Int.toNat_natCast, Nat.mul_one, Nat.zero_add, hJ, hJ2, hB]; rfl)) "" Cmp.mk) (by kernel_rfl) (by kernel_rfl) (by first | exact lenB_one _ | kernel_rfl) (by kernel_rfl) (by rfl) (by rfl) (by first | exact firstN_self _ | rfl) (by rfl) (by simp (maxSteps := 1000000) only [VC, qA, qB, qC, qD, qE, qF, qG, qH, qI, qJ, qK, qL, qM, qN, qO, qP, qQ, qR, qS, qT, qU, qV, qW, qX, qY, qZ, qe, qf, qg, qh, qj, qk, ql, qm, qn, qo, qp, qq, qt, qu, qv, ev, qw, qy, qz, zA, zB, zC, zD, zE, zF, zG, zH, zI, zJ, TE.sv, zK, zL, zM, ↓reduceIte, reduceCtorEq, Value.oneCell', Nat.reduceEqDiff, Nat.reduceAdd, Nat.reduceLT, Nat.reduceBEq, Nat.reduceSub, Nat.reduceLeDiff, zP, zQ, zR, zS, zT, zU, zV, zW, zX, zY, zZ, za, zb, zc, zd, ze, zf, zg, zh, zi, zj, zk, zl, zm, zn, zo, zp, zq, zr, zt, zu, zw, zx, zy, zz, cE, jA, jB, hap, killE, deadOf, rwE, cD, cO, jC, jD, jE, jF, jG, jH, jI, jJ, jK, jL, jM, jN, jO, jP, jQ, jR, jS, jT, jU, jV, jW, jX, jY, hP, swC, lwC, rowKeyB, rowText, rowJoinR, strsOf, hkl, hkey, s0', s1', sv', sn', c0', hi, wi, w3, w4, wf, wv, hwS, b5, hix, hi0, hi6, hi6', f0, f64, v0, v64, Int.toNat_natCast, Nat.mul_one, Nat.zero_add, hJ, hJ2, hB]) ?_; refine VT_ok hctr (rs := res6) true 300 _ _ _ ?_; simp (maxSteps := 1000000) only [VT, jf, jg, jZ, ja, jd, je, VC, qA, qB, qC, qD, qE, qF, qG, qH, qI, qJ, qK, qL, qM, qN, qO, qP, qQ, qR, qS, qT, qU, qV, qW, qX, qY, qZ, qe, qf, qg, qh, qj, qk, ql, qm, qn, qo, qp, qq, qt, qu, qv, ev, qw, qy, qz, zA, zB, zC, zD, zE, zF, zG, zH, zI, zJ, TE.sv, zK, zL, zM, ↓reduceIte, reduceCtorEq, Value.oneCell', Nat.reduceEqDiff, Nat.reduceAdd, Nat.reduceLT, Nat.reduceBEq, Nat.reduceSub, Nat.reduceLeDiff, zP, zQ, zR, zS, zT, zU, zV, zW, zX, zY, zZ, za, zb, zc, zd, ze, zf, zg, zh, zi, zj, zk, zl, zm, zn, zo, zp, zq, zr, zt, zu, zw, zx, zy, zz, cE, jA, jB, hap, killE, deadOf, rwE, cD, cO, jC, jD, jE, jF, jG, jH, jI, jJ, jK, jL, jM, jN, jO, jP, jQ, jR, jS, jT, jU, jV, jW, jX, jY, hP, hk, res6, kp6, swC, lwC, rowKeyB, rowText, rowJoinR, strsOf, hkl, hkey, s0', s1', sv', sn', c0', hi, wi, w3, w4, wf, wv, hwS, b5, hix, hi0, hi6, hi6', f0, f64, v0, v64, Int.toNat_natCast, Nat.mul_one, Nat.zero_add, hJ, hJ2, hB])
  repeat (refine ⟨by (first | omega | (simp only [List.length_append, List.length_cons, List.length_nil]; omega)), ?_⟩)
  refine Run_parse _ p1 (by simp only [List.length_append, List.length_cons, List.length_nil]; omega) hP hE (by rw [hn0]; exact Nat.zero_le _) (by rfl) (by simp) ?_
  (refine VT_ok hctr (rs := res6) true 300 _ _ _ ?_; simp (maxSteps := 1000000) only [VT, jf, jg, jZ, ja, jd, je, VC, qA, qB, qC, qD, qE, qF, qG, qH, qI, qJ, qK, qL, qM, qN, qO, qP, qQ, qR, qS, qT, qU, qV, qW, qX, qY, qZ, qe, qf, qg, qh, qj, qk, ql, qm, qn, qo, qp, qq, qt, qu, qv, ev, qw, qy, qz, zA, zB, zC, zD, zE, zF, zG, zH, zI, zJ, TE.sv, zK, zL, zM, ↓reduceIte, reduceCtorEq, Value.oneCell', Nat.reduceEqDiff, Nat.reduceAdd, Nat.reduceLT, Nat.reduceBEq, Nat.reduceSub, Nat.reduceLeDiff, zP, zQ, zR, zS, zT, zU, zV, zW, zX, zY, zZ, za, zb, zc, zd, ze, zf, zg, zh, zi, zj, zk, zl, zm, zn, zo, zp, zq, zr, zt, zu, zw, zx, zy, zz, cE, jA, jB, hap, killE, deadOf, rwE, cD, cO, jC, jD, jE, jF, jG, jH, jI, jJ, jK, jL, jM, jN, jO, jP, jQ, jR, jS, jT, jU, jV, jW, jX, jY, hP, hk, res6, kp6, swC, lwC, rowKeyB, rowText, rowJoinR, strsOf, hkl, hkey, s0', s1', sv', sn', c0', hi, wi, w3, w4, wf, wv, hwS, b5, psV, psE, rqS, badR, Rq.zero, hN, wN, tk, Int.toNat_natCast, hi0])
  repeat (refine ⟨by (first | omega | (simp only [List.length_append, List.length_cons, List.length_nil]; omega)), ?_⟩)
  refine Run_parse _ p2 (by simp only [List.length_append, List.length_cons, List.length_nil]; omega) hP hE (by rw [hn0]; exact Nat.zero_le _) (by rfl) (by simp) ?_
  (refine VT_ok hctr (rs := res6) true 300 _ _ _ ?_; simp (maxSteps := 1000000) only [VT, jf, jg, jZ, ja, jd, je, VC, qA, qB, qC, qD, qE, qF, qG, qH, qI, qJ, qK, qL, qM, qN, qO, qP, qQ, qR, qS, qT, qU, qV, qW, qX, qY, qZ, qe, qf, qg, qh, qj, qk, ql, qm, qn, qo, qp, qq, qt, qu, qv, ev, qw, qy, qz, zA, zB, zC, zD, zE, zF, zG, zH, zI, zJ, TE.sv, zK, zL, zM, ↓reduceIte, reduceCtorEq, Value.oneCell', Nat.reduceEqDiff, Nat.reduceAdd, Nat.reduceLT, Nat.reduceBEq, Nat.reduceSub, Nat.reduceLeDiff, zP, zQ, zR, zS, zT, zU, zV, zW, zX, zY, zZ, za, zb, zc, zd, ze, zf, zg, zh, zi, zj, zk, zl, zm, zn, zo, zp, zq, zr, zt, zu, zw, zx, zy, zz, cE, jA, jB, hap, killE, deadOf, rwE, cD, cO, jC, jD, jE, jF, jG, jH, jI, jJ, jK, jL, jM, jN, jO, jP, jQ, jR, jS, jT, jU, jV, jW, jX, jY, hP, hk, res6, kp6, swC, lwC, rowKeyB, rowText, rowJoinR, strsOf, hkl, hkey, s0', s1', sv', sn', c0', hi, wi, w3, w4, wf, wv, hwS, b5, psV, psE, rqS, badR, Rq.zero, hN, wN, tk, Int.toNat_natCast, hi0])
  repeat (refine ⟨by (first | omega | (simp only [List.length_append, List.length_cons, List.length_nil]; omega)), ?_⟩)
  refine Run_parse _ p3 (by simp only [List.length_append, List.length_cons, List.length_nil]; omega) hP hE (by rw [hn0]; exact Nat.zero_le _) (by rfl) (by simp) ?_
  (refine VT_ok hctr (rs := res6) true 400 _ _ _ ?_; simp (maxSteps := 1000000) only [VT, jf, jg, jZ, ja, jd, je, VC, qA, qB, qC, qD, qE, qF, qG, qH, qI, qJ, qK, qL, qM, qN, qO, qP, qQ, qR, qS, qT, qU, qV, qW, qX, qY, qZ, qe, qf, qg, qh, qj, qk, ql, qm, qn, qo, qp, qq, qt, qu, qv, ev, qw, qy, qz, zA, zB, zC, zD, zE, zF, zG, zH, zI, zJ, TE.sv, zK, zL, zM, ↓reduceIte, reduceCtorEq, Value.oneCell', Nat.reduceEqDiff, Nat.reduceAdd, Nat.reduceLT, Nat.reduceBEq, Nat.reduceSub, Nat.reduceLeDiff, zP, zQ, zR, zS, zT, zU, zV, zW, zX, zY, zZ, za, zb, zc, zd, ze, zf, zg, zh, zi, zj, zk, zl, zm, zn, zo, zp, zq, zr, zt, zu, zw, zx, zy, zz, cE, jA, jB, hap, killE, deadOf, rwE, cD, cO, jC, jD, jE, jF, jG, jH, jI, jJ, jK, jL, jM, jN, jO, jP, jQ, jR, jS, jT, jU, jV, jW, jX, jY, hP, hk, res6, kp6, swC, lwC, rowKeyB, rowText, rowJoinR, strsOf, hkl, hkey, s0', s1', sv', sn', c0', hi, wi, w3, w4, wf, wv, hwS, b5, psV, psE, rqS, badR, Rq.zero, hN, wN, tk, Int.toNat_natCast, hi0, i5, wm, y1, y2, y3, rwE, flatG, rcS, steq_cm, List.flatMap_cons, List.flatMap_nil, List.append_nil, List.length_cons, List.length_nil, beq_self_eq_true, bne_self_eq_false, true_and, Int.toNat_zero, Nat.zero_mul, Nat.zero_add])
  refine ⟨by decide, ?_⟩
  (refine Run_drawD hctr (by rw [hP]; rfl) rs6_23 [] (ensure_type_of% (Cmp.of (by simp (maxSteps := 1000000) only [VC, qA, qB, qC, qD, qE, qF, qG, qH, qI, qJ, qK, qL, qM, qN, qO, qP, qQ, qR, qS, qT, qU, qV, qW, qX, qY, qZ, qe, qf, qg, qh, qj, qk, ql, qm, qn, qo, qp, qq, qt, qu, qv, ev, qw, qy, qz, zA, zB, zC, zD, zE, zF, zG, zH, zI, zJ, TE.sv, zK, zL, zM, ↓reduceIte, reduceCtorEq, Value.oneCell', Nat.reduceEqDiff, Nat.reduceAdd, Nat.reduceLT, Nat.reduceBEq, Nat.reduceSub, Nat.reduceLeDiff, zP, zQ, zR, zS, zT, zU, zV, zW, zX, zY, zZ, za, zb, zc, zd, ze, zf, zg, zh, zi, zj, zk, zl, zm, zn, zo, zp, zq, zr, zt, zu, zw, zx, zy, zz, cE, jA, jB, hap, killE, deadOf, rwE, cD, cO, jC, jD, jE, jF, jG, jH, jI, jJ, jK, jL, jM, jN, jO, jP, jQ, jR, jS, jT, jU, jV, jW, jX, jY, hP, swC, lwC, rowKeyB, rowText, rowJoinR, strsOf, hkl, hkey, s0', s1', sv', sn', c0', hi, wi, w3, w4, wf, wv, hwS, b5, psV, psE, rqS, badR, Rq.zero, hN, wN, tk, Int.toNat_natCast, hi0, i5, wm, y1, y2, y3, rwE, flatG, rcS, steq_cm, List.flatMap_cons, List.flatMap_nil, List.append_nil, List.length_cons, List.length_nil, beq_self_eq_true, bne_self_eq_false, true_and, Int.toNat_zero, Nat.zero_mul, Nat.zero_add, Bool.and_self, Bool.and_true, Bool.true_and, Bool.not_false, Bool.not_true, Int.le_refl, ub]; rfl)) "" Cmp.mk) (by kernel_rfl) (by kernel_rfl) (by first | exact lenB_one _ | kernel_rfl) (by kernel_rfl) (by rfl) (by rfl) (by first | exact firstN_self _ | rfl) (by rfl) (by simp (maxSteps := 1000000) only [VC, qA, qB, qC, qD, qE, qF, qG, qH, qI, qJ, qK, qL, qM, qN, qO, qP, qQ, qR, qS, qT, qU, qV, qW, qX, qY, qZ, qe, qf, qg, qh, qj, qk, ql, qm, qn, qo, qp, qq, qt, qu, qv, ev, qw, qy, qz, zA, zB, zC, zD, zE, zF, zG, zH, zI, zJ, TE.sv, zK, zL, zM, ↓reduceIte, reduceCtorEq, Value.oneCell', Nat.reduceEqDiff, Nat.reduceAdd, Nat.reduceLT, Nat.reduceBEq, Nat.reduceSub, Nat.reduceLeDiff, zP, zQ, zR, zS, zT, zU, zV, zW, zX, zY, zZ, za, zb, zc, zd, ze, zf, zg, zh, zi, zj, zk, zl, zm, zn, zo, zp, zq, zr, zt, zu, zw, zx, zy, zz, cE, jA, jB, hap, killE, deadOf, rwE, cD, cO, jC, jD, jE, jF, jG, jH, jI, jJ, jK, jL, jM, jN, jO, jP, jQ, jR, jS, jT, jU, jV, jW, jX, jY, hP, swC, lwC, rowKeyB, rowText, rowJoinR, strsOf, hkl, hkey, s0', s1', sv', sn', c0', hi, wi, w3, w4, wf, wv, hwS, b5, psV, psE, rqS, badR, Rq.zero, hN, wN, tk, Int.toNat_natCast, hi0, i5, wm, y1, y2, y3, rwE, flatG, rcS, steq_cm, List.flatMap_cons, List.flatMap_nil, List.append_nil, List.length_cons, List.length_nil, beq_self_eq_true, bne_self_eq_false, true_and, Int.toNat_zero, Nat.zero_mul, Nat.zero_add, Bool.and_self, Bool.and_true, Bool.true_and, Bool.not_false, Bool.not_true, Int.le_refl, ub]) ?_; refine VT_ok hctr (rs := res6) true 400 _ _ _ ?_; simp (maxSteps := 1000000) only [VT, jf, jg, jZ, ja, jd, je, VC, qA, qB, qC, qD, qE, qF, qG, qH, qI, qJ, qK, qL, qM, qN, qO, qP, qQ, qR, qS, qT, qU, qV, qW, qX, qY, qZ, qe, qf, qg, qh, qj, qk, ql, qm, qn, qo, qp, qq, qt, qu, qv, ev, qw, qy, qz, zA, zB, zC, zD, zE, zF, zG, zH, zI, zJ, TE.sv, zK, zL, zM, ↓reduceIte, reduceCtorEq, Value.oneCell', Nat.reduceEqDiff, Nat.reduceAdd, Nat.reduceLT, Nat.reduceBEq, Nat.reduceSub, Nat.reduceLeDiff, zP, zQ, zR, zS, zT, zU, zV, zW, zX, zY, zZ, za, zb, zc, zd, ze, zf, zg, zh, zi, zj, zk, zl, zm, zn, zo, zp, zq, zr, zt, zu, zw, zx, zy, zz, cE, jA, jB, hap, killE, deadOf, rwE, cD, cO, jC, jD, jE, jF, jG, jH, jI, jJ, jK, jL, jM, jN, jO, jP, jQ, jR, jS, jT, jU, jV, jW, jX, jY, hP, hk, res6, kp6, swC, lwC, rowKeyB, rowText, rowJoinR, strsOf, hkl, hkey, s0', s1', sv', sn', c0', hi, wi, w3, w4, wf, wv, hwS, b5, psV, psE, rqS, badR, Rq.zero, hN, wN, tk, Int.toNat_natCast, hi0, i5, wm, y1, y2, y3, rwE, flatG, rcS, steq_cm, List.flatMap_cons, List.flatMap_nil, List.append_nil, List.length_cons, List.length_nil, beq_self_eq_true, bne_self_eq_false, true_and, Int.toNat_zero, Nat.zero_mul, Nat.zero_add, Bool.and_self, Bool.and_true, Bool.true_and, Bool.not_false, Bool.not_true, Int.le_refl, ub])
  exact fin _
end Go.Proofs.YtlbbldcfkalhlaaGreatDoor
