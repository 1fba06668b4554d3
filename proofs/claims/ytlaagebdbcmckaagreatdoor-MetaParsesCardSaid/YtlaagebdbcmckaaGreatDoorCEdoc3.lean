/- The document's mode, argument, walked. Printed by gen_edoc3.py. -/
import Derived.Test.YtlaagebdbcmckaaGreatDoorCEdoc1
namespace Go.Proofs.YtlaagebdbcmckaaGreatDoor
set_option linter.unusedSimpArgs false
set_option linter.unusedVariables false
set_option linter.unusedSimpArgs false
set_option linter.unusedVariables false
set_option maxHeartbeats 8000000
open Go.RowKit
set_option maxRecDepth 100000
def rowHasD : List SV → Option (Prop × SV)
  | [.c (.s l), .c (.i .u8 n)] => some (0 ≤ n ∧ n < 256 ∧ l.length ≤ 9223372036854775806, .c (.b (l.contains (UInt8.ofNat n.toNat))))
  | _ => none
def rowSecD : List SV → Option (Prop × SV)
  | [.c (.s l)] => some (l.length ≤ 9223372036854775807, .t [.c (.i .i64 (dsecF l).1), .c (.b (dsecF l).2)])
  | _ => none
def dA0 : Ctr := fun f en xs => match f with
  | 66 => rowHasD xs
  | 88 => rowSecD xs
  | _ => dG0 f en xs
theorem dA0_ok {C : Cx} (hP : C.P = Tryz.prog) : CtrOk C dA0 := by
  intro f en xs p v h hp ρ w hup hHp hHo hinj hwf
  unfold dA0 at h
  split at h
  · rw [hP]
    refine ⟨fun args w => Tryz.call66 args w, ?_⟩
    unfold rowHasD at h
    split at h <;> simp only [Option.some.injEq, Prod.mk.injEq, reduceCtorEq] at h
    rename_i l n
    obtain ⟨rfl, rfl⟩ := h
    have hn : n = ((UInt8.ofNat n.toNat).toNat : Int) := by
      rw [UInt8.toNat_ofNat', Nat.mod_eq_of_lt (by omega)]; omega
    have := dhas_w l (UInt8.ofNat n.toNat) hp.2.2 w
    rw [← hn] at this
    exact ⟨trivial, this⟩
  · rw [hP]
    refine ⟨fun args w => Tryz.call88 args w, ?_⟩
    unfold rowSecD at h
    split at h <;> simp only [Option.some.injEq, Prod.mk.injEq, reduceCtorEq] at h
    obtain ⟨rfl, rfl⟩ := h
    exact ⟨by simp [SV.wf, TE.wf, SC.wf], dsecs_w _ hp w⟩
  · exact dG0_ok hP f en xs p v h hp ρ w hup hHp hHo hinj hwf
def modeD (c : Cd) (s : List UInt8) : Cd × Bool := match s with
  | [x] => if c.op = 3 then ({ c with down := [68, 100, 45].contains x }, [73, 105, 43, 68, 100, 45].contains x)
    else if x = 83 ∨ x = 115 then ({ c with mode := 0 }, true)
    else if x = 69 ∨ x = 101 then ({ c with mode := 1 }, true)
    else if x = 65 ∨ x = 97 then ({ c with mode := 3 }, true)
    else if x = 80 ∨ x = 112 then ({ c with mode := 4 }, true)
    else if x = 82 ∨ x = 114 then ({ c with mode := 2 }, true)
    else (c, false)
  | _ => (c, false)
theorem dmode_w {w : World} {g : Nat} {c : Cd} (h : Blk w g 33 (ecA c)) (s : List UInt8) :
    Calls Tryz.prog 89 #[.pointer (some ⟨g, 0, none⟩), .string ⟨s.toArray⟩] w (SetP g w (modeD c s)) := by
  refine calls_of_Run Tryz.func89 rfl kp89 (S := One g) (ρ := fun _ => reOf g) [.c (.p 0 0), .c (.s s)] Tryz.ntmps89 (ec_at h true (One g) (fun _ => rfl)) (by simp [SV.wf, SC.wf]) (by simp) ?_
  intro C hC hP hk
  have hctr := dA0_ok hP
  have fin : ∀ c' b, (c', b) = modeD c s → Fin C res89 (.c (.b b)) [enC c' true] := fun c' b e => set_fin (by rw [hC]; rfl) hres89 e
  by_cases h1 : ∃ x, s = [x]
  · obtain ⟨x, rfl⟩ := h1
    have cl : (((1 : Nat) : Int) != 1) = false := rfl
    have x0 : (0 : Int) ≤ (x.toNat : Int) := by omega
    have x1 : (x.toNat : Int) < 256 := by have := x.toNat_lt; omega
    have g0 : (0 : Int) ≤ 0 := by decide
    have g1 : (0 : Int) < ((1 : Nat) : Int) := by decide
    have hgd : ([x] : List UInt8).getD (0 : Int).toNat 0 = x := rfl
    by_cases h3 : c.op = 3
    · have c3 : (c.op == 3) = true := by rw [h3]; rfl
      (refine VT_ok hctr (rs := res89) true 300 _ _ _ ?_; simp (maxSteps := 1000000) only [VT, jf, jg, jZ, ja, jd, je, VC, qA, qB, qC, qD, qE, qF, qG, qH, qI, qJ, qK, qL, qM, qN, qO, qP, qQ, qR, qS, qT, qU, qV, qW, qX, qY, qZ, qe, qf, qg, qh, qj, qk, ql, qm, qn, qo, qp, qq, q0t, qu, qv, ev, qw, qy, qz, zA, zB, zC, zD, zE, zF, zG, zH, zI, zJ, TE.sv, zK, zL, zM, ↓reduceIte, reduceCtorEq, Value.oneCell', Nat.reduceEqDiff, Nat.reduceAdd, Nat.reduceLT, Nat.reduceBEq, Nat.reduceSub, Nat.reduceLeDiff, zP, zQ, zR, zS, zT, zU, zV, zW, zX, zY, zZ, za, zb, zc, zd, ze, zf, zg, zh, zi, zj, zk, zl, zm, zn, zo, zp, zq, zr, zt, zu, zw, zx, zy, zz, cE, jA, jB, hap, killE, deadOf, rwE, cD, cO, jC, jD, jE, jF, jG, jH, jI, jJ, jK, jL, jM, jN, jO, jP, jQ, jR, jS, jT, jU, jV, jW, jX, jY, hP, hk, res89, kp89, dA0, rowHasD, enC, ecS, cl, g0, g1, hgd, x0, x1, Int.toNat_natCast, UInt8.ofNat_toNat, List.length_cons, List.length_nil, Nat.zero_add, Nat.reduceAdd, c3])
      repeat (refine ⟨by first | decide | omega | (simp only [List.length_append, List.length_cons, List.length_nil]; omega), ?_⟩)
      exact fin { c with down := [68, 100, 45].contains x } _ (by simp only [modeD, if_pos h3])
    have c3 : (c.op == 3) = false := by simpa using h3
    by_cases n0 : x = 83
    · have e0 : ((x.toNat : Int) == 83) = true := u8_eq (k := 83) (by decide) n0
      (refine VT_ok hctr (rs := res89) true 300 _ _ _ ?_; simp (maxSteps := 1000000) only [VT, jf, jg, jZ, ja, jd, je, VC, qA, qB, qC, qD, qE, qF, qG, qH, qI, qJ, qK, qL, qM, qN, qO, qP, qQ, qR, qS, qT, qU, qV, qW, qX, qY, qZ, qe, qf, qg, qh, qj, qk, ql, qm, qn, qo, qp, qq, q0t, qu, qv, ev, qw, qy, qz, zA, zB, zC, zD, zE, zF, zG, zH, zI, zJ, TE.sv, zK, zL, zM, ↓reduceIte, reduceCtorEq, Value.oneCell', Nat.reduceEqDiff, Nat.reduceAdd, Nat.reduceLT, Nat.reduceBEq, Nat.reduceSub, Nat.reduceLeDiff, zP, zQ, zR, zS, zT, zU, zV, zW, zX, zY, zZ, za, zb, zc, zd, ze, zf, zg, zh, zi, zj, zk, zl, zm, zn, zo, zp, zq, zr, zt, zu, zw, zx, zy, zz, cE, jA, jB, hap, killE, deadOf, rwE, cD, cO, jC, jD, jE, jF, jG, jH, jI, jJ, jK, jL, jM, jN, jO, jP, jQ, jR, jS, jT, jU, jV, jW, jX, jY, hP, hk, res89, kp89, dA0, rowHasD, enC, ecS, cl, g0, g1, hgd, x0, x1, Int.toNat_natCast, UInt8.ofNat_toNat, List.length_cons, List.length_nil, Nat.zero_add, Nat.reduceAdd, c3, e0])
      repeat (refine ⟨by first | decide | omega | (simp only [List.length_append, List.length_cons, List.length_nil]; omega), ?_⟩)
      exact fin { c with mode := 0 } _ (by simp only [modeD]; rw [if_neg h3, if_pos (Or.inl n0)])
    have d0 : ((x.toNat : Int) == 83) = false := u8_ne (k := 83) n0
    by_cases m0 : x = 115
    · have e0 : ((x.toNat : Int) == 115) = true := u8_eq (k := 115) (by decide) m0
      (refine VT_ok hctr (rs := res89) true 300 _ _ _ ?_; simp (maxSteps := 1000000) only [VT, jf, jg, jZ, ja, jd, je, VC, qA, qB, qC, qD, qE, qF, qG, qH, qI, qJ, qK, qL, qM, qN, qO, qP, qQ, qR, qS, qT, qU, qV, qW, qX, qY, qZ, qe, qf, qg, qh, qj, qk, ql, qm, qn, qo, qp, qq, q0t, qu, qv, ev, qw, qy, qz, zA, zB, zC, zD, zE, zF, zG, zH, zI, zJ, TE.sv, zK, zL, zM, ↓reduceIte, reduceCtorEq, Value.oneCell', Nat.reduceEqDiff, Nat.reduceAdd, Nat.reduceLT, Nat.reduceBEq, Nat.reduceSub, Nat.reduceLeDiff, zP, zQ, zR, zS, zT, zU, zV, zW, zX, zY, zZ, za, zb, zc, zd, ze, zf, zg, zh, zi, zj, zk, zl, zm, zn, zo, zp, zq, zr, zt, zu, zw, zx, zy, zz, cE, jA, jB, hap, killE, deadOf, rwE, cD, cO, jC, jD, jE, jF, jG, jH, jI, jJ, jK, jL, jM, jN, jO, jP, jQ, jR, jS, jT, jU, jV, jW, jX, jY, hP, hk, res89, kp89, dA0, rowHasD, enC, ecS, cl, g0, g1, hgd, x0, x1, Int.toNat_natCast, UInt8.ofNat_toNat, List.length_cons, List.length_nil, Nat.zero_add, Nat.reduceAdd, c3, d0, e0])
      repeat (refine ⟨by first | decide | omega | (simp only [List.length_append, List.length_cons, List.length_nil]; omega), ?_⟩)
      exact fin { c with mode := 0 } _ (by simp only [modeD]; rw [if_neg h3, if_pos (Or.inr m0)])
    have f0 : ((x.toNat : Int) == 115) = false := u8_ne (k := 115) m0
    by_cases n1 : x = 69
    · have e1 : ((x.toNat : Int) == 69) = true := u8_eq (k := 69) (by decide) n1
      (refine VT_ok hctr (rs := res89) true 300 _ _ _ ?_; simp (maxSteps := 1000000) only [VT, jf, jg, jZ, ja, jd, je, VC, qA, qB, qC, qD, qE, qF, qG, qH, qI, qJ, qK, qL, qM, qN, qO, qP, qQ, qR, qS, qT, qU, qV, qW, qX, qY, qZ, qe, qf, qg, qh, qj, qk, ql, qm, qn, qo, qp, qq, q0t, qu, qv, ev, qw, qy, qz, zA, zB, zC, zD, zE, zF, zG, zH, zI, zJ, TE.sv, zK, zL, zM, ↓reduceIte, reduceCtorEq, Value.oneCell', Nat.reduceEqDiff, Nat.reduceAdd, Nat.reduceLT, Nat.reduceBEq, Nat.reduceSub, Nat.reduceLeDiff, zP, zQ, zR, zS, zT, zU, zV, zW, zX, zY, zZ, za, zb, zc, zd, ze, zf, zg, zh, zi, zj, zk, zl, zm, zn, zo, zp, zq, zr, zt, zu, zw, zx, zy, zz, cE, jA, jB, hap, killE, deadOf, rwE, cD, cO, jC, jD, jE, jF, jG, jH, jI, jJ, jK, jL, jM, jN, jO, jP, jQ, jR, jS, jT, jU, jV, jW, jX, jY, hP, hk, res89, kp89, dA0, rowHasD, enC, ecS, cl, g0, g1, hgd, x0, x1, Int.toNat_natCast, UInt8.ofNat_toNat, List.length_cons, List.length_nil, Nat.zero_add, Nat.reduceAdd, c3, d0, f0, e1])
      repeat (refine ⟨by first | decide | omega | (simp only [List.length_append, List.length_cons, List.length_nil]; omega), ?_⟩)
      exact fin { c with mode := 1 } _ (by simp only [modeD]; rw [if_neg h3, if_neg (fun h => h.elim n0 m0), if_pos (Or.inl n1)])
    have d1 : ((x.toNat : Int) == 69) = false := u8_ne (k := 69) n1
    by_cases m1 : x = 101
    · have e1 : ((x.toNat : Int) == 101) = true := u8_eq (k := 101) (by decide) m1
      (refine VT_ok hctr (rs := res89) true 300 _ _ _ ?_; simp (maxSteps := 1000000) only [VT, jf, jg, jZ, ja, jd, je, VC, qA, qB, qC, qD, qE, qF, qG, qH, qI, qJ, qK, qL, qM, qN, qO, qP, qQ, qR, qS, qT, qU, qV, qW, qX, qY, qZ, qe, qf, qg, qh, qj, qk, ql, qm, qn, qo, qp, qq, q0t, qu, qv, ev, qw, qy, qz, zA, zB, zC, zD, zE, zF, zG, zH, zI, zJ, TE.sv, zK, zL, zM, ↓reduceIte, reduceCtorEq, Value.oneCell', Nat.reduceEqDiff, Nat.reduceAdd, Nat.reduceLT, Nat.reduceBEq, Nat.reduceSub, Nat.reduceLeDiff, zP, zQ, zR, zS, zT, zU, zV, zW, zX, zY, zZ, za, zb, zc, zd, ze, zf, zg, zh, zi, zj, zk, zl, zm, zn, zo, zp, zq, zr, zt, zu, zw, zx, zy, zz, cE, jA, jB, hap, killE, deadOf, rwE, cD, cO, jC, jD, jE, jF, jG, jH, jI, jJ, jK, jL, jM, jN, jO, jP, jQ, jR, jS, jT, jU, jV, jW, jX, jY, hP, hk, res89, kp89, dA0, rowHasD, enC, ecS, cl, g0, g1, hgd, x0, x1, Int.toNat_natCast, UInt8.ofNat_toNat, List.length_cons, List.length_nil, Nat.zero_add, Nat.reduceAdd, c3, d0, f0, d1, e1])
      repeat (refine ⟨by first | decide | omega | (simp only [List.length_append, List.length_cons, List.length_nil]; omega), ?_⟩)
      exact fin { c with mode := 1 } _ (by simp only [modeD]; rw [if_neg h3, if_neg (fun h => h.elim n0 m0), if_pos (Or.inr m1)])
    have f1 : ((x.toNat : Int) == 101) = false := u8_ne (k := 101) m1
    by_cases n2 : x = 65
    · have e2 : ((x.toNat : Int) == 65) = true := u8_eq (k := 65) (by decide) n2
      (refine VT_ok hctr (rs := res89) true 300 _ _ _ ?_; simp (maxSteps := 1000000) only [VT, jf, jg, jZ, ja, jd, je, VC, qA, qB, qC, qD, qE, qF, qG, qH, qI, qJ, qK, qL, qM, qN, qO, qP, qQ, qR, qS, qT, qU, qV, qW, qX, qY, qZ, qe, qf, qg, qh, qj, qk, ql, qm, qn, qo, qp, qq, q0t, qu, qv, ev, qw, qy, qz, zA, zB, zC, zD, zE, zF, zG, zH, zI, zJ, TE.sv, zK, zL, zM, ↓reduceIte, reduceCtorEq, Value.oneCell', Nat.reduceEqDiff, Nat.reduceAdd, Nat.reduceLT, Nat.reduceBEq, Nat.reduceSub, Nat.reduceLeDiff, zP, zQ, zR, zS, zT, zU, zV, zW, zX, zY, zZ, za, zb, zc, zd, ze, zf, zg, zh, zi, zj, zk, zl, zm, zn, zo, zp, zq, zr, zt, zu, zw, zx, zy, zz, cE, jA, jB, hap, killE, deadOf, rwE, cD, cO, jC, jD, jE, jF, jG, jH, jI, jJ, jK, jL, jM, jN, jO, jP, jQ, jR, jS, jT, jU, jV, jW, jX, jY, hP, hk, res89, kp89, dA0, rowHasD, enC, ecS, cl, g0, g1, hgd, x0, x1, Int.toNat_natCast, UInt8.ofNat_toNat, List.length_cons, List.length_nil, Nat.zero_add, Nat.reduceAdd, c3, d0, f0, d1, f1, e2])
      repeat (refine ⟨by first | decide | omega | (simp only [List.length_append, List.length_cons, List.length_nil]; omega), ?_⟩)
      exact fin { c with mode := 3 } _ (by simp only [modeD]; rw [if_neg h3, if_neg (fun h => h.elim n0 m0), if_neg (fun h => h.elim n1 m1), if_pos (Or.inl n2)])
    have d2 : ((x.toNat : Int) == 65) = false := u8_ne (k := 65) n2
    by_cases m2 : x = 97
    · have e2 : ((x.toNat : Int) == 97) = true := u8_eq (k := 97) (by decide) m2
      (refine VT_ok hctr (rs := res89) true 300 _ _ _ ?_; simp (maxSteps := 1000000) only [VT, jf, jg, jZ, ja, jd, je, VC, qA, qB, qC, qD, qE, qF, qG, qH, qI, qJ, qK, qL, qM, qN, qO, qP, qQ, qR, qS, qT, qU, qV, qW, qX, qY, qZ, qe, qf, qg, qh, qj, qk, ql, qm, qn, qo, qp, qq, q0t, qu, qv, ev, qw, qy, qz, zA, zB, zC, zD, zE, zF, zG, zH, zI, zJ, TE.sv, zK, zL, zM, ↓reduceIte, reduceCtorEq, Value.oneCell', Nat.reduceEqDiff, Nat.reduceAdd, Nat.reduceLT, Nat.reduceBEq, Nat.reduceSub, Nat.reduceLeDiff, zP, zQ, zR, zS, zT, zU, zV, zW, zX, zY, zZ, za, zb, zc, zd, ze, zf, zg, zh, zi, zj, zk, zl, zm, zn, zo, zp, zq, zr, zt, zu, zw, zx, zy, zz, cE, jA, jB, hap, killE, deadOf, rwE, cD, cO, jC, jD, jE, jF, jG, jH, jI, jJ, jK, jL, jM, jN, jO, jP, jQ, jR, jS, jT, jU, jV, jW, jX, jY, hP, hk, res89, kp89, dA0, rowHasD, enC, ecS, cl, g0, g1, hgd, x0, x1, Int.toNat_natCast, UInt8.ofNat_toNat, List.length_cons, List.length_nil, Nat.zero_add, Nat.reduceAdd, c3, d0, f0, d1, f1, d2, e2])
      repeat (refine ⟨by first | decide | omega | (simp only [List.length_append, List.length_cons, List.length_nil]; omega), ?_⟩)
      exact fin { c with mode := 3 } _ (by simp only [modeD]; rw [if_neg h3, if_neg (fun h => h.elim n0 m0), if_neg (fun h => h.elim n1 m1), if_pos (Or.inr m2)])
    have f2 : ((x.toNat : Int) == 97) = false := u8_ne (k := 97) m2
    by_cases n3 : x = 80
    · have e3 : ((x.toNat : Int) == 80) = true := u8_eq (k := 80) (by decide) n3
      (refine VT_ok hctr (rs := res89) true 300 _ _ _ ?_; simp (maxSteps := 1000000) only [VT, jf, jg, jZ, ja, jd, je, VC, qA, qB, qC, qD, qE, qF, qG, qH, qI, qJ, qK, qL, qM, qN, qO, qP, qQ, qR, qS, qT, qU, qV, qW, qX, qY, qZ, qe, qf, qg, qh, qj, qk, ql, qm, qn, qo, qp, qq, q0t, qu, qv, ev, qw, qy, qz, zA, zB, zC, zD, zE, zF, zG, zH, zI, zJ, TE.sv, zK, zL, zM, ↓reduceIte, reduceCtorEq, Value.oneCell', Nat.reduceEqDiff, Nat.reduceAdd, Nat.reduceLT, Nat.reduceBEq, Nat.reduceSub, Nat.reduceLeDiff, zP, zQ, zR, zS, zT, zU, zV, zW, zX, zY, zZ, za, zb, zc, zd, ze, zf, zg, zh, zi, zj, zk, zl, zm, zn, zo, zp, zq, zr, zt, zu, zw, zx, zy, zz, cE, jA, jB, hap, killE, deadOf, rwE, cD, cO, jC, jD, jE, jF, jG, jH, jI, jJ, jK, jL, jM, jN, jO, jP, jQ, jR, jS, jT, jU, jV, jW, jX, jY, hP, hk, res89, kp89, dA0, rowHasD, enC, ecS, cl, g0, g1, hgd, x0, x1, Int.toNat_natCast, UInt8.ofNat_toNat, List.length_cons, List.length_nil, Nat.zero_add, Nat.reduceAdd, c3, d0, f0, d1, f1, d2, f2, e3])
      repeat (refine ⟨by first | decide | omega | (simp only [List.length_append, List.length_cons, List.length_nil]; omega), ?_⟩)
      exact fin { c with mode := 4 } _ (by simp only [modeD]; rw [if_neg h3, if_neg (fun h => h.elim n0 m0), if_neg (fun h => h.elim n1 m1), if_neg (fun h => h.elim n2 m2), if_pos (Or.inl n3)])
    have d3 : ((x.toNat : Int) == 80) = false := u8_ne (k := 80) n3
    by_cases m3 : x = 112
    · have e3 : ((x.toNat : Int) == 112) = true := u8_eq (k := 112) (by decide) m3
      (refine VT_ok hctr (rs := res89) true 300 _ _ _ ?_; simp (maxSteps := 1000000) only [VT, jf, jg, jZ, ja, jd, je, VC, qA, qB, qC, qD, qE, qF, qG, qH, qI, qJ, qK, qL, qM, qN, qO, qP, qQ, qR, qS, qT, qU, qV, qW, qX, qY, qZ, qe, qf, qg, qh, qj, qk, ql, qm, qn, qo, qp, qq, q0t, qu, qv, ev, qw, qy, qz, zA, zB, zC, zD, zE, zF, zG, zH, zI, zJ, TE.sv, zK, zL, zM, ↓reduceIte, reduceCtorEq, Value.oneCell', Nat.reduceEqDiff, Nat.reduceAdd, Nat.reduceLT, Nat.reduceBEq, Nat.reduceSub, Nat.reduceLeDiff, zP, zQ, zR, zS, zT, zU, zV, zW, zX, zY, zZ, za, zb, zc, zd, ze, zf, zg, zh, zi, zj, zk, zl, zm, zn, zo, zp, zq, zr, zt, zu, zw, zx, zy, zz, cE, jA, jB, hap, killE, deadOf, rwE, cD, cO, jC, jD, jE, jF, jG, jH, jI, jJ, jK, jL, jM, jN, jO, jP, jQ, jR, jS, jT, jU, jV, jW, jX, jY, hP, hk, res89, kp89, dA0, rowHasD, enC, ecS, cl, g0, g1, hgd, x0, x1, Int.toNat_natCast, UInt8.ofNat_toNat, List.length_cons, List.length_nil, Nat.zero_add, Nat.reduceAdd, c3, d0, f0, d1, f1, d2, f2, d3, e3])
      repeat (refine ⟨by first | decide | omega | (simp only [List.length_append, List.length_cons, List.length_nil]; omega), ?_⟩)
      exact fin { c with mode := 4 } _ (by simp only [modeD]; rw [if_neg h3, if_neg (fun h => h.elim n0 m0), if_neg (fun h => h.elim n1 m1), if_neg (fun h => h.elim n2 m2), if_pos (Or.inr m3)])
    have f3 : ((x.toNat : Int) == 112) = false := u8_ne (k := 112) m3
    by_cases n4 : x = 82
    · have e4 : ((x.toNat : Int) == 82) = true := u8_eq (k := 82) (by decide) n4
      (refine VT_ok hctr (rs := res89) true 300 _ _ _ ?_; simp (maxSteps := 1000000) only [VT, jf, jg, jZ, ja, jd, je, VC, qA, qB, qC, qD, qE, qF, qG, qH, qI, qJ, qK, qL, qM, qN, qO, qP, qQ, qR, qS, qT, qU, qV, qW, qX, qY, qZ, qe, qf, qg, qh, qj, qk, ql, qm, qn, qo, qp, qq, q0t, qu, qv, ev, qw, qy, qz, zA, zB, zC, zD, zE, zF, zG, zH, zI, zJ, TE.sv, zK, zL, zM, ↓reduceIte, reduceCtorEq, Value.oneCell', Nat.reduceEqDiff, Nat.reduceAdd, Nat.reduceLT, Nat.reduceBEq, Nat.reduceSub, Nat.reduceLeDiff, zP, zQ, zR, zS, zT, zU, zV, zW, zX, zY, zZ, za, zb, zc, zd, ze, zf, zg, zh, zi, zj, zk, zl, zm, zn, zo, zp, zq, zr, zt, zu, zw, zx, zy, zz, cE, jA, jB, hap, killE, deadOf, rwE, cD, cO, jC, jD, jE, jF, jG, jH, jI, jJ, jK, jL, jM, jN, jO, jP, jQ, jR, jS, jT, jU, jV, jW, jX, jY, hP, hk, res89, kp89, dA0, rowHasD, enC, ecS, cl, g0, g1, hgd, x0, x1, Int.toNat_natCast, UInt8.ofNat_toNat, List.length_cons, List.length_nil, Nat.zero_add, Nat.reduceAdd, c3, d0, f0, d1, f1, d2, f2, d3, f3, e4])
      repeat (refine ⟨by first | decide | omega | (simp only [List.length_append, List.length_cons, List.length_nil]; omega), ?_⟩)
      exact fin { c with mode := 2 } _ (by simp only [modeD]; rw [if_neg h3, if_neg (fun h => h.elim n0 m0), if_neg (fun h => h.elim n1 m1), if_neg (fun h => h.elim n2 m2), if_neg (fun h => h.elim n3 m3), if_pos (Or.inl n4)])
    have d4 : ((x.toNat : Int) == 82) = false := u8_ne (k := 82) n4
    by_cases m4 : x = 114
    · have e4 : ((x.toNat : Int) == 114) = true := u8_eq (k := 114) (by decide) m4
      (refine VT_ok hctr (rs := res89) true 300 _ _ _ ?_; simp (maxSteps := 1000000) only [VT, jf, jg, jZ, ja, jd, je, VC, qA, qB, qC, qD, qE, qF, qG, qH, qI, qJ, qK, qL, qM, qN, qO, qP, qQ, qR, qS, qT, qU, qV, qW, qX, qY, qZ, qe, qf, qg, qh, qj, qk, ql, qm, qn, qo, qp, qq, q0t, qu, qv, ev, qw, qy, qz, zA, zB, zC, zD, zE, zF, zG, zH, zI, zJ, TE.sv, zK, zL, zM, ↓reduceIte, reduceCtorEq, Value.oneCell', Nat.reduceEqDiff, Nat.reduceAdd, Nat.reduceLT, Nat.reduceBEq, Nat.reduceSub, Nat.reduceLeDiff, zP, zQ, zR, zS, zT, zU, zV, zW, zX, zY, zZ, za, zb, zc, zd, ze, zf, zg, zh, zi, zj, zk, zl, zm, zn, zo, zp, zq, zr, zt, zu, zw, zx, zy, zz, cE, jA, jB, hap, killE, deadOf, rwE, cD, cO, jC, jD, jE, jF, jG, jH, jI, jJ, jK, jL, jM, jN, jO, jP, jQ, jR, jS, jT, jU, jV, jW, jX, jY, hP, hk, res89, kp89, dA0, rowHasD, enC, ecS, cl, g0, g1, hgd, x0, x1, Int.toNat_natCast, UInt8.ofNat_toNat, List.length_cons, List.length_nil, Nat.zero_add, Nat.reduceAdd, c3, d0, f0, d1, f1, d2, f2, d3, f3, d4, e4])
      repeat (refine ⟨by first | decide | omega | (simp only [List.length_append, List.length_cons, List.length_nil]; omega), ?_⟩)
      exact fin { c with mode := 2 } _ (by simp only [modeD]; rw [if_neg h3, if_neg (fun h => h.elim n0 m0), if_neg (fun h => h.elim n1 m1), if_neg (fun h => h.elim n2 m2), if_neg (fun h => h.elim n3 m3), if_pos (Or.inr m4)])
    have f4 : ((x.toNat : Int) == 114) = false := u8_ne (k := 114) m4
    (refine VT_ok hctr (rs := res89) true 300 _ _ _ ?_; simp (maxSteps := 1000000) only [VT, jf, jg, jZ, ja, jd, je, VC, qA, qB, qC, qD, qE, qF, qG, qH, qI, qJ, qK, qL, qM, qN, qO, qP, qQ, qR, qS, qT, qU, qV, qW, qX, qY, qZ, qe, qf, qg, qh, qj, qk, ql, qm, qn, qo, qp, qq, q0t, qu, qv, ev, qw, qy, qz, zA, zB, zC, zD, zE, zF, zG, zH, zI, zJ, TE.sv, zK, zL, zM, ↓reduceIte, reduceCtorEq, Value.oneCell', Nat.reduceEqDiff, Nat.reduceAdd, Nat.reduceLT, Nat.reduceBEq, Nat.reduceSub, Nat.reduceLeDiff, zP, zQ, zR, zS, zT, zU, zV, zW, zX, zY, zZ, za, zb, zc, zd, ze, zf, zg, zh, zi, zj, zk, zl, zm, zn, zo, zp, zq, zr, zt, zu, zw, zx, zy, zz, cE, jA, jB, hap, killE, deadOf, rwE, cD, cO, jC, jD, jE, jF, jG, jH, jI, jJ, jK, jL, jM, jN, jO, jP, jQ, jR, jS, jT, jU, jV, jW, jX, jY, hP, hk, res89, kp89, dA0, rowHasD, enC, ecS, cl, g0, g1, hgd, x0, x1, Int.toNat_natCast, UInt8.ofNat_toNat, List.length_cons, List.length_nil, Nat.zero_add, Nat.reduceAdd, c3, d0, f0, d1, f1, d2, f2, d3, f3, d4, f4])
    repeat (refine ⟨by first | decide | omega | (simp only [List.length_append, List.length_cons, List.length_nil]; omega), ?_⟩)
    exact fin c _ (by simp only [modeD]; rw [if_neg h3, if_neg (fun h => h.elim n0 m0), if_neg (fun h => h.elim n1 m1), if_neg (fun h => h.elim n2 m2), if_neg (fun h => h.elim n3 m3), if_neg (fun h => h.elim n4 m4)])
  · have c0 : ((s.length : Int) != 1) = true := by
      rw [bne_iff_ne]; intro e
      match s, h1, e with
      | [x], h1, _ => exact h1 ⟨x, rfl⟩
      | [], _, e => simp at e
      | _ :: _ :: _, _, e => simp at e; omega
    (refine VT_ok hctr (rs := res89) true 300 _ _ _ ?_; simp (maxSteps := 1000000) only [VT, jf, jg, jZ, ja, jd, je, VC, qA, qB, qC, qD, qE, qF, qG, qH, qI, qJ, qK, qL, qM, qN, qO, qP, qQ, qR, qS, qT, qU, qV, qW, qX, qY, qZ, qe, qf, qg, qh, qj, qk, ql, qm, qn, qo, qp, qq, q0t, qu, qv, ev, qw, qy, qz, zA, zB, zC, zD, zE, zF, zG, zH, zI, zJ, TE.sv, zK, zL, zM, ↓reduceIte, reduceCtorEq, Value.oneCell', Nat.reduceEqDiff, Nat.reduceAdd, Nat.reduceLT, Nat.reduceBEq, Nat.reduceSub, Nat.reduceLeDiff, zP, zQ, zR, zS, zT, zU, zV, zW, zX, zY, zZ, za, zb, zc, zd, ze, zf, zg, zh, zi, zj, zk, zl, zm, zn, zo, zp, zq, zr, zt, zu, zw, zx, zy, zz, cE, jA, jB, hap, killE, deadOf, rwE, cD, cO, jC, jD, jE, jF, jG, jH, jI, jJ, jK, jL, jM, jN, jO, jP, jQ, jR, jS, jT, jU, jV, jW, jX, jY, hP, hk, res89, kp89, dA0, enC, ecS, c0])
    exact fin c _ (by unfold modeD; split <;> first | exact absurd ⟨_, rfl⟩ h1 | rfl)
theorem dmode_h {C : Cx} {nE : Nat} {mk : Nat → Prop} {en en' : List EN} {N : Nat} {c : Cd} {s : List UInt8} (hP : C.P = Tryz.prog) (hE : EnvC C) (h0 : zD en N = some (enC c true)) (hN : N < nE) (hmk : ∀ q, ¬ mk q) (hen : en' = zE en N (enC (modeD c s).1 true)) :
    HCall C nE mk en en' 89 [.c (.p N 0), .c (.s s)] (.c (.b (modeD c s).2)) :=
  setl_h hP hE h0 hN hmk (fun args w => Tryz.call89 args w) (fun ρ w g hb hu he => dmode_w hb s) hen
def argD (c : Cd) (x : UInt8) (s : List UInt8) : Cd × Bool :=
  if x = 73 then ({ c with inval := true }, s == [])
  else if x = 67 then ({ c with cas := (numF s).1, hasCas := true }, (numF s).2)
  else if x = 68 then ({ c with delta := (numF s).1 }, (numF s).2)
  else if x = 74 then ({ c with init := (numF s).1 }, (numF s).2)
  else if x = 70 then ({ c with flags := IntKind.u32.wrap (numF s).1 }, (numF s).2 && decide ((numF s).1 < 4294967296))
  else if x = 77 then modeD c s
  else if x = 78 then ({ c with viv := true, vive := (dsecF s).1 }, (dsecF s).2)
  else if x = 79 then (c, decide ((1 : Int) ≤ s.length) && decide ((s.length : Int) ≤ 32))
  else if x = 82 then ({ c with recache := (dsecF s).1 }, (dsecF s).2)
  else if x = 84 then ({ c with hasExp := c.op != 2, exp := (dsecF s).1 }, (dsecF s).2)
  else (c, s == [])
theorem darg_w {w : World} {g : Nat} {c : Cd} (h : Blk w g 33 (ecA c)) (x : UInt8) (s : List UInt8) (hl : s.length ≤ 9223372036854775806) (hE : Env w) (hEg : ∀ w', Upd (One g) w w' → Env w') :
    Calls Tryz.prog 67 #[.pointer (some ⟨g, 0, none⟩), .int .u8 x.toNat, .string ⟨s.toArray⟩] w (SetP g w (argD c x s)) := by
  refine calls_of_Run Tryz.func67 rfl kp67 (S := One g) (ρ := fun _ => reOf g) [.c (.p 0 0), .c (.i .u8 x.toNat), .c (.s s)] Tryz.ntmps67 (ec_at h true (One g) (fun _ => rfl)) (by simp [SV.wf, SC.wf]) (by simp) ?_
  intro C hC hP hk
  have hEC : EnvC C := fun w' hu => by rw [hC] at hu; exact hEg w' hu
  have hctr := dA0_ok hP
  have fin : ∀ c' b, (c', b) = argD c x s → Fin C res67 (.c (.b b)) [enC c' true] := fun c' b e => set_fin (by rw [hC]; rfl) hres67 e
  have hl7 : s.length ≤ 9223372036854775807 := by omega
  obtain ⟨q, qb, hq⟩ : ∃ q qb, dsecF s = (q, qb) := ⟨_, _, rfl⟩
  by_cases h0 : x = 73
  · have e0 : ((x.toNat : Int) == 73) = true := u8_eq (k := 73) (by decide) h0
    (refine VT_ok hctr (rs := res67) true 300 _ _ _ ?_; simp (maxSteps := 1000000) only [VT, jf, jg, jZ, ja, jd, je, VC, qA, qB, qC, qD, qE, qF, qG, qH, qI, qJ, qK, qL, qM, qN, qO, qP, qQ, qR, qS, qT, qU, qV, qW, qX, qY, qZ, qe, qf, qg, qh, qj, qk, ql, qm, qn, qo, qp, qq, q0t, qu, qv, ev, qw, qy, qz, zA, zB, zC, zD, zE, zF, zG, zH, zI, zJ, TE.sv, zK, zL, zM, ↓reduceIte, reduceCtorEq, Value.oneCell', Nat.reduceEqDiff, Nat.reduceAdd, Nat.reduceLT, Nat.reduceBEq, Nat.reduceSub, Nat.reduceLeDiff, zP, zQ, zR, zS, zT, zU, zV, zW, zX, zY, zZ, za, zb, zc, zd, ze, zf, zg, zh, zi, zj, zk, zl, zm, zn, zo, zp, zq, zr, zt, zu, zw, zx, zy, zz, cE, jA, jB, hap, killE, deadOf, rwE, cD, cO, jC, jD, jE, jF, jG, jH, jI, jJ, jK, jL, jM, jN, jO, jP, jQ, jR, jS, jT, jU, jV, jW, jX, jY, hP, hk, res67, kp67, dA0, dG0, rowParse, rowSecD, enC, ecS, hq, e0])
    exact ⟨hl7, hl7, fin { c with inval := true } _ (by unfold argD; rw [if_pos h0])⟩
  have d0 : ((x.toNat : Int) == 73) = false := u8_ne (k := 73) h0
  by_cases h1 : x = 67
  · have e1 : ((x.toNat : Int) == 67) = true := u8_eq (k := 67) (by decide) h1
    (refine VT_ok hctr (rs := res67) true 300 _ _ _ ?_; simp (maxSteps := 1000000) only [VT, jf, jg, jZ, ja, jd, je, VC, qA, qB, qC, qD, qE, qF, qG, qH, qI, qJ, qK, qL, qM, qN, qO, qP, qQ, qR, qS, qT, qU, qV, qW, qX, qY, qZ, qe, qf, qg, qh, qj, qk, ql, qm, qn, qo, qp, qq, q0t, qu, qv, ev, qw, qy, qz, zA, zB, zC, zD, zE, zF, zG, zH, zI, zJ, TE.sv, zK, zL, zM, ↓reduceIte, reduceCtorEq, Value.oneCell', Nat.reduceEqDiff, Nat.reduceAdd, Nat.reduceLT, Nat.reduceBEq, Nat.reduceSub, Nat.reduceLeDiff, zP, zQ, zR, zS, zT, zU, zV, zW, zX, zY, zZ, za, zb, zc, zd, ze, zf, zg, zh, zi, zj, zk, zl, zm, zn, zo, zp, zq, zr, zt, zu, zw, zx, zy, zz, cE, jA, jB, hap, killE, deadOf, rwE, cD, cO, jC, jD, jE, jF, jG, jH, jI, jJ, jK, jL, jM, jN, jO, jP, jQ, jR, jS, jT, jU, jV, jW, jX, jY, hP, hk, res67, kp67, dA0, dG0, rowParse, rowSecD, enC, ecS, hq, d0, e1])
    exact ⟨hl7, hl7, fin { c with cas := ((parseV s).getD 0 : Nat), hasCas := true } _ (by unfold argD; rw [if_neg h0, if_pos h1]; rfl)⟩
  have d1 : ((x.toNat : Int) == 67) = false := u8_ne (k := 67) h1
  by_cases h2 : x = 68
  · have e2 : ((x.toNat : Int) == 68) = true := u8_eq (k := 68) (by decide) h2
    (refine VT_ok hctr (rs := res67) true 300 _ _ _ ?_; simp (maxSteps := 1000000) only [VT, jf, jg, jZ, ja, jd, je, VC, qA, qB, qC, qD, qE, qF, qG, qH, qI, qJ, qK, qL, qM, qN, qO, qP, qQ, qR, qS, qT, qU, qV, qW, qX, qY, qZ, qe, qf, qg, qh, qj, qk, ql, qm, qn, qo, qp, qq, q0t, qu, qv, ev, qw, qy, qz, zA, zB, zC, zD, zE, zF, zG, zH, zI, zJ, TE.sv, zK, zL, zM, ↓reduceIte, reduceCtorEq, Value.oneCell', Nat.reduceEqDiff, Nat.reduceAdd, Nat.reduceLT, Nat.reduceBEq, Nat.reduceSub, Nat.reduceLeDiff, zP, zQ, zR, zS, zT, zU, zV, zW, zX, zY, zZ, za, zb, zc, zd, ze, zf, zg, zh, zi, zj, zk, zl, zm, zn, zo, zp, zq, zr, zt, zu, zw, zx, zy, zz, cE, jA, jB, hap, killE, deadOf, rwE, cD, cO, jC, jD, jE, jF, jG, jH, jI, jJ, jK, jL, jM, jN, jO, jP, jQ, jR, jS, jT, jU, jV, jW, jX, jY, hP, hk, res67, kp67, dA0, dG0, rowParse, rowSecD, enC, ecS, hq, d0, d1, e2])
    exact ⟨hl7, hl7, fin { c with delta := ((parseV s).getD 0 : Nat) } _ (by unfold argD; rw [if_neg h0, if_neg h1, if_pos h2]; rfl)⟩
  have d2 : ((x.toNat : Int) == 68) = false := u8_ne (k := 68) h2
  by_cases h3 : x = 74
  · have e3 : ((x.toNat : Int) == 74) = true := u8_eq (k := 74) (by decide) h3
    (refine VT_ok hctr (rs := res67) true 300 _ _ _ ?_; simp (maxSteps := 1000000) only [VT, jf, jg, jZ, ja, jd, je, VC, qA, qB, qC, qD, qE, qF, qG, qH, qI, qJ, qK, qL, qM, qN, qO, qP, qQ, qR, qS, qT, qU, qV, qW, qX, qY, qZ, qe, qf, qg, qh, qj, qk, ql, qm, qn, qo, qp, qq, q0t, qu, qv, ev, qw, qy, qz, zA, zB, zC, zD, zE, zF, zG, zH, zI, zJ, TE.sv, zK, zL, zM, ↓reduceIte, reduceCtorEq, Value.oneCell', Nat.reduceEqDiff, Nat.reduceAdd, Nat.reduceLT, Nat.reduceBEq, Nat.reduceSub, Nat.reduceLeDiff, zP, zQ, zR, zS, zT, zU, zV, zW, zX, zY, zZ, za, zb, zc, zd, ze, zf, zg, zh, zi, zj, zk, zl, zm, zn, zo, zp, zq, zr, zt, zu, zw, zx, zy, zz, cE, jA, jB, hap, killE, deadOf, rwE, cD, cO, jC, jD, jE, jF, jG, jH, jI, jJ, jK, jL, jM, jN, jO, jP, jQ, jR, jS, jT, jU, jV, jW, jX, jY, hP, hk, res67, kp67, dA0, dG0, rowParse, rowSecD, enC, ecS, hq, d0, d1, d2, e3])
    exact ⟨hl7, hl7, fin { c with init := ((parseV s).getD 0 : Nat) } _ (by unfold argD; rw [if_neg h0, if_neg h1, if_neg h2, if_pos h3]; rfl)⟩
  have d3 : ((x.toNat : Int) == 74) = false := u8_ne (k := 74) h3
  by_cases h4 : x = 70
  · have e4 : ((x.toNat : Int) == 70) = true := u8_eq (k := 70) (by decide) h4
    cases hp : parseV s with
    | none =>
      (refine VT_ok hctr (rs := res67) true 300 _ _ _ ?_; simp (maxSteps := 1000000) only [VT, jf, jg, jZ, ja, jd, je, VC, qA, qB, qC, qD, qE, qF, qG, qH, qI, qJ, qK, qL, qM, qN, qO, qP, qQ, qR, qS, qT, qU, qV, qW, qX, qY, qZ, qe, qf, qg, qh, qj, qk, ql, qm, qn, qo, qp, qq, q0t, qu, qv, ev, qw, qy, qz, zA, zB, zC, zD, zE, zF, zG, zH, zI, zJ, TE.sv, zK, zL, zM, ↓reduceIte, reduceCtorEq, Value.oneCell', Nat.reduceEqDiff, Nat.reduceAdd, Nat.reduceLT, Nat.reduceBEq, Nat.reduceSub, Nat.reduceLeDiff, zP, zQ, zR, zS, zT, zU, zV, zW, zX, zY, zZ, za, zb, zc, zd, ze, zf, zg, zh, zi, zj, zk, zl, zm, zn, zo, zp, zq, zr, zt, zu, zw, zx, zy, zz, cE, jA, jB, hap, killE, deadOf, rwE, cD, cO, jC, jD, jE, jF, jG, jH, jI, jJ, jK, jL, jM, jN, jO, jP, jQ, jR, jS, jT, jU, jV, jW, jX, jY, hP, hk, res67, kp67, dA0, dG0, rowParse, rowSecD, enC, ecS, hq, d0, d1, d2, d3, e4, hp, Option.getD_none, Option.isSome_none])
      exact ⟨hl7, hl7, fin { c with flags := IntKind.u32.wrap ((0 : Nat) : Int) } _ (by unfold argD; rw [if_neg h0, if_neg h1, if_neg h2, if_neg h3, if_pos h4]; simp [numF, hp])⟩
    | some v =>
      (refine VT_ok hctr (rs := res67) true 300 _ _ _ ?_; simp (maxSteps := 1000000) only [VT, jf, jg, jZ, ja, jd, je, VC, qA, qB, qC, qD, qE, qF, qG, qH, qI, qJ, qK, qL, qM, qN, qO, qP, qQ, qR, qS, qT, qU, qV, qW, qX, qY, qZ, qe, qf, qg, qh, qj, qk, ql, qm, qn, qo, qp, qq, q0t, qu, qv, ev, qw, qy, qz, zA, zB, zC, zD, zE, zF, zG, zH, zI, zJ, TE.sv, zK, zL, zM, ↓reduceIte, reduceCtorEq, Value.oneCell', Nat.reduceEqDiff, Nat.reduceAdd, Nat.reduceLT, Nat.reduceBEq, Nat.reduceSub, Nat.reduceLeDiff, zP, zQ, zR, zS, zT, zU, zV, zW, zX, zY, zZ, za, zb, zc, zd, ze, zf, zg, zh, zi, zj, zk, zl, zm, zn, zo, zp, zq, zr, zt, zu, zw, zx, zy, zz, cE, jA, jB, hap, killE, deadOf, rwE, cD, cO, jC, jD, jE, jF, jG, jH, jI, jJ, jK, jL, jM, jN, jO, jP, jQ, jR, jS, jT, jU, jV, jW, jX, jY, hP, hk, res67, kp67, dA0, dG0, rowParse, rowSecD, enC, ecS, hq, d0, d1, d2, d3, e4, hp, Option.getD_some, Option.isSome_some])
      exact ⟨hl7, hl7, fin { c with flags := IntKind.u32.wrap (v : Int) } _ (by unfold argD; rw [if_neg h0, if_neg h1, if_neg h2, if_neg h3, if_pos h4]; simp [numF, hp])⟩
  have d4 : ((x.toNat : Int) == 70) = false := u8_ne (k := 70) h4
  by_cases h5 : x = 77
  · have e5 : ((x.toNat : Int) == 77) = true := u8_eq (k := 77) (by decide) h5
    (refine VT_ok hctr (rs := res67) true 300 _ _ _ ?_; simp (maxSteps := 1000000) only [VT, jf, jg, jZ, ja, jd, je, VC, qA, qB, qC, qD, qE, qF, qG, qH, qI, qJ, qK, qL, qM, qN, qO, qP, qQ, qR, qS, qT, qU, qV, qW, qX, qY, qZ, qe, qf, qg, qh, qj, qk, ql, qm, qn, qo, qp, qq, q0t, qu, qv, ev, qw, qy, qz, zA, zB, zC, zD, zE, zF, zG, zH, zI, zJ, TE.sv, zK, zL, zM, ↓reduceIte, reduceCtorEq, Value.oneCell', Nat.reduceEqDiff, Nat.reduceAdd, Nat.reduceLT, Nat.reduceBEq, Nat.reduceSub, Nat.reduceLeDiff, zP, zQ, zR, zS, zT, zU, zV, zW, zX, zY, zZ, za, zb, zc, zd, ze, zf, zg, zh, zi, zj, zk, zl, zm, zn, zo, zp, zq, zr, zt, zu, zw, zx, zy, zz, cE, jA, jB, hap, killE, deadOf, rwE, cD, cO, jC, jD, jE, jF, jG, jH, jI, jJ, jK, jL, jM, jN, jO, jP, jQ, jR, jS, jT, jU, jV, jW, jX, jY, hP, hk, res67, kp67, dA0, dG0, rowParse, rowSecD, enC, ecS, hq, d0, d1, d2, d3, d4, e5])
    refine ⟨hl7, hl7, ?_⟩
    refine Run_hcall rfl (.c (.b (modeD c s).2)) _ (dmode_h (C := C) hP hEC (N := 0) (c := c) (s := s) rfl (by simp [zG]) (fun q hq => by simp only [zG, zE] at hq; omega) rfl) (by simp [zG, zE]) (by simp) ?_
    (refine VT_ok hctr (rs := res67) true 300 _ _ _ ?_; simp (maxSteps := 1000000) only [VT, jf, jg, jZ, ja, jd, je, VC, qA, qB, qC, qD, qE, qF, qG, qH, qI, qJ, qK, qL, qM, qN, qO, qP, qQ, qR, qS, qT, qU, qV, qW, qX, qY, qZ, qe, qf, qg, qh, qj, qk, ql, qm, qn, qo, qp, qq, q0t, qu, qv, ev, qw, qy, qz, zA, zB, zC, zD, zE, zF, zG, zH, zI, zJ, TE.sv, zK, zL, zM, ↓reduceIte, reduceCtorEq, Value.oneCell', Nat.reduceEqDiff, Nat.reduceAdd, Nat.reduceLT, Nat.reduceBEq, Nat.reduceSub, Nat.reduceLeDiff, zP, zQ, zR, zS, zT, zU, zV, zW, zX, zY, zZ, za, zb, zc, zd, ze, zf, zg, zh, zi, zj, zk, zl, zm, zn, zo, zp, zq, zr, zt, zu, zw, zx, zy, zz, cE, jA, jB, hap, killE, deadOf, rwE, cD, cO, jC, jD, jE, jF, jG, jH, jI, jJ, jK, jL, jM, jN, jO, jP, jQ, jR, jS, jT, jU, jV, jW, jX, jY, hP, hk, res67, kp67, dA0, dG0, rowParse, rowSecD, enC, ecS, hq, d0, d1, d2, d3, d4, e5, zE])
    exact fin (modeD c s).1 _ (by unfold argD; rw [if_neg h0, if_neg h1, if_neg h2, if_neg h3, if_neg h4, if_pos h5])
  have d5 : ((x.toNat : Int) == 77) = false := u8_ne (k := 77) h5
  by_cases h6 : x = 78
  · have e6 : ((x.toNat : Int) == 78) = true := u8_eq (k := 78) (by decide) h6
    (refine VT_ok hctr (rs := res67) true 300 _ _ _ ?_; simp (maxSteps := 1000000) only [VT, jf, jg, jZ, ja, jd, je, VC, qA, qB, qC, qD, qE, qF, qG, qH, qI, qJ, qK, qL, qM, qN, qO, qP, qQ, qR, qS, qT, qU, qV, qW, qX, qY, qZ, qe, qf, qg, qh, qj, qk, ql, qm, qn, qo, qp, qq, q0t, qu, qv, ev, qw, qy, qz, zA, zB, zC, zD, zE, zF, zG, zH, zI, zJ, TE.sv, zK, zL, zM, ↓reduceIte, reduceCtorEq, Value.oneCell', Nat.reduceEqDiff, Nat.reduceAdd, Nat.reduceLT, Nat.reduceBEq, Nat.reduceSub, Nat.reduceLeDiff, zP, zQ, zR, zS, zT, zU, zV, zW, zX, zY, zZ, za, zb, zc, zd, ze, zf, zg, zh, zi, zj, zk, zl, zm, zn, zo, zp, zq, zr, zt, zu, zw, zx, zy, zz, cE, jA, jB, hap, killE, deadOf, rwE, cD, cO, jC, jD, jE, jF, jG, jH, jI, jJ, jK, jL, jM, jN, jO, jP, jQ, jR, jS, jT, jU, jV, jW, jX, jY, hP, hk, res67, kp67, dA0, dG0, rowParse, rowSecD, enC, ecS, hq, d0, d1, d2, d3, d4, d5, e6])
    exact ⟨hl7, hl7, fin { c with viv := true, vive := q } _ (by unfold argD; rw [if_neg h0, if_neg h1, if_neg h2, if_neg h3, if_neg h4, if_neg h5, if_pos h6]; rw [hq])⟩
  have d6 : ((x.toNat : Int) == 78) = false := u8_ne (k := 78) h6
  by_cases h7 : x = 79
  · have e7 : ((x.toNat : Int) == 79) = true := u8_eq (k := 79) (by decide) h7
    cases hz : decide ((1 : Int) ≤ (s.length : Int)) with
    | true =>
      (refine VT_ok hctr (rs := res67) true 300 _ _ _ ?_; simp (maxSteps := 1000000) only [VT, jf, jg, jZ, ja, jd, je, VC, qA, qB, qC, qD, qE, qF, qG, qH, qI, qJ, qK, qL, qM, qN, qO, qP, qQ, qR, qS, qT, qU, qV, qW, qX, qY, qZ, qe, qf, qg, qh, qj, qk, ql, qm, qn, qo, qp, qq, q0t, qu, qv, ev, qw, qy, qz, zA, zB, zC, zD, zE, zF, zG, zH, zI, zJ, TE.sv, zK, zL, zM, ↓reduceIte, reduceCtorEq, Value.oneCell', Nat.reduceEqDiff, Nat.reduceAdd, Nat.reduceLT, Nat.reduceBEq, Nat.reduceSub, Nat.reduceLeDiff, zP, zQ, zR, zS, zT, zU, zV, zW, zX, zY, zZ, za, zb, zc, zd, ze, zf, zg, zh, zi, zj, zk, zl, zm, zn, zo, zp, zq, zr, zt, zu, zw, zx, zy, zz, cE, jA, jB, hap, killE, deadOf, rwE, cD, cO, jC, jD, jE, jF, jG, jH, jI, jJ, jK, jL, jM, jN, jO, jP, jQ, jR, jS, jT, jU, jV, jW, jX, jY, hP, hk, res67, kp67, dA0, dG0, rowParse, rowSecD, enC, ecS, hq, d0, d1, d2, d3, d4, d5, d6, e7, hz])
      exact ⟨hl7, hl7, fin c _ (by unfold argD; rw [if_neg h0, if_neg h1, if_neg h2, if_neg h3, if_neg h4, if_neg h5, if_neg h6, if_pos h7]; rw [hz]; simp)⟩
    | false =>
      (refine VT_ok hctr (rs := res67) true 300 _ _ _ ?_; simp (maxSteps := 1000000) only [VT, jf, jg, jZ, ja, jd, je, VC, qA, qB, qC, qD, qE, qF, qG, qH, qI, qJ, qK, qL, qM, qN, qO, qP, qQ, qR, qS, qT, qU, qV, qW, qX, qY, qZ, qe, qf, qg, qh, qj, qk, ql, qm, qn, qo, qp, qq, q0t, qu, qv, ev, qw, qy, qz, zA, zB, zC, zD, zE, zF, zG, zH, zI, zJ, TE.sv, zK, zL, zM, ↓reduceIte, reduceCtorEq, Value.oneCell', Nat.reduceEqDiff, Nat.reduceAdd, Nat.reduceLT, Nat.reduceBEq, Nat.reduceSub, Nat.reduceLeDiff, zP, zQ, zR, zS, zT, zU, zV, zW, zX, zY, zZ, za, zb, zc, zd, ze, zf, zg, zh, zi, zj, zk, zl, zm, zn, zo, zp, zq, zr, zt, zu, zw, zx, zy, zz, cE, jA, jB, hap, killE, deadOf, rwE, cD, cO, jC, jD, jE, jF, jG, jH, jI, jJ, jK, jL, jM, jN, jO, jP, jQ, jR, jS, jT, jU, jV, jW, jX, jY, hP, hk, res67, kp67, dA0, dG0, rowParse, rowSecD, enC, ecS, hq, d0, d1, d2, d3, d4, d5, d6, e7, hz])
      exact ⟨hl7, hl7, fin c _ (by unfold argD; rw [if_neg h0, if_neg h1, if_neg h2, if_neg h3, if_neg h4, if_neg h5, if_neg h6, if_pos h7]; rw [hz]; simp)⟩
  have d7 : ((x.toNat : Int) == 79) = false := u8_ne (k := 79) h7
  by_cases h8 : x = 82
  · have e8 : ((x.toNat : Int) == 82) = true := u8_eq (k := 82) (by decide) h8
    (refine VT_ok hctr (rs := res67) true 300 _ _ _ ?_; simp (maxSteps := 1000000) only [VT, jf, jg, jZ, ja, jd, je, VC, qA, qB, qC, qD, qE, qF, qG, qH, qI, qJ, qK, qL, qM, qN, qO, qP, qQ, qR, qS, qT, qU, qV, qW, qX, qY, qZ, qe, qf, qg, qh, qj, qk, ql, qm, qn, qo, qp, qq, q0t, qu, qv, ev, qw, qy, qz, zA, zB, zC, zD, zE, zF, zG, zH, zI, zJ, TE.sv, zK, zL, zM, ↓reduceIte, reduceCtorEq, Value.oneCell', Nat.reduceEqDiff, Nat.reduceAdd, Nat.reduceLT, Nat.reduceBEq, Nat.reduceSub, Nat.reduceLeDiff, zP, zQ, zR, zS, zT, zU, zV, zW, zX, zY, zZ, za, zb, zc, zd, ze, zf, zg, zh, zi, zj, zk, zl, zm, zn, zo, zp, zq, zr, zt, zu, zw, zx, zy, zz, cE, jA, jB, hap, killE, deadOf, rwE, cD, cO, jC, jD, jE, jF, jG, jH, jI, jJ, jK, jL, jM, jN, jO, jP, jQ, jR, jS, jT, jU, jV, jW, jX, jY, hP, hk, res67, kp67, dA0, dG0, rowParse, rowSecD, enC, ecS, hq, d0, d1, d2, d3, d4, d5, d6, d7, e8])
    exact ⟨hl7, hl7, fin { c with recache := q } _ (by unfold argD; rw [if_neg h0, if_neg h1, if_neg h2, if_neg h3, if_neg h4, if_neg h5, if_neg h6, if_neg h7, if_pos h8]; rw [hq])⟩
  have d8 : ((x.toNat : Int) == 82) = false := u8_ne (k := 82) h8
  by_cases h9 : x = 84
  · have e9 : ((x.toNat : Int) == 84) = true := u8_eq (k := 84) (by decide) h9
    (refine VT_ok hctr (rs := res67) true 300 _ _ _ ?_; simp (maxSteps := 1000000) only [VT, jf, jg, jZ, ja, jd, je, VC, qA, qB, qC, qD, qE, qF, qG, qH, qI, qJ, qK, qL, qM, qN, qO, qP, qQ, qR, qS, qT, qU, qV, qW, qX, qY, qZ, qe, qf, qg, qh, qj, qk, ql, qm, qn, qo, qp, qq, q0t, qu, qv, ev, qw, qy, qz, zA, zB, zC, zD, zE, zF, zG, zH, zI, zJ, TE.sv, zK, zL, zM, ↓reduceIte, reduceCtorEq, Value.oneCell', Nat.reduceEqDiff, Nat.reduceAdd, Nat.reduceLT, Nat.reduceBEq, Nat.reduceSub, Nat.reduceLeDiff, zP, zQ, zR, zS, zT, zU, zV, zW, zX, zY, zZ, za, zb, zc, zd, ze, zf, zg, zh, zi, zj, zk, zl, zm, zn, zo, zp, zq, zr, zt, zu, zw, zx, zy, zz, cE, jA, jB, hap, killE, deadOf, rwE, cD, cO, jC, jD, jE, jF, jG, jH, jI, jJ, jK, jL, jM, jN, jO, jP, jQ, jR, jS, jT, jU, jV, jW, jX, jY, hP, hk, res67, kp67, dA0, dG0, rowParse, rowSecD, enC, ecS, hq, d0, d1, d2, d3, d4, d5, d6, d7, d8, e9])
    exact ⟨hl7, hl7, fin { c with hasExp := c.op != 2, exp := q } _ (by unfold argD; rw [if_neg h0, if_neg h1, if_neg h2, if_neg h3, if_neg h4, if_neg h5, if_neg h6, if_neg h7, if_neg h8, if_pos h9]; rw [hq])⟩
  have d9 : ((x.toNat : Int) == 84) = false := u8_ne (k := 84) h9
  (refine VT_ok hctr (rs := res67) true 300 _ _ _ ?_; simp (maxSteps := 1000000) only [VT, jf, jg, jZ, ja, jd, je, VC, qA, qB, qC, qD, qE, qF, qG, qH, qI, qJ, qK, qL, qM, qN, qO, qP, qQ, qR, qS, qT, qU, qV, qW, qX, qY, qZ, qe, qf, qg, qh, qj, qk, ql, qm, qn, qo, qp, qq, q0t, qu, qv, ev, qw, qy, qz, zA, zB, zC, zD, zE, zF, zG, zH, zI, zJ, TE.sv, zK, zL, zM, ↓reduceIte, reduceCtorEq, Value.oneCell', Nat.reduceEqDiff, Nat.reduceAdd, Nat.reduceLT, Nat.reduceBEq, Nat.reduceSub, Nat.reduceLeDiff, zP, zQ, zR, zS, zT, zU, zV, zW, zX, zY, zZ, za, zb, zc, zd, ze, zf, zg, zh, zi, zj, zk, zl, zm, zn, zo, zp, zq, zr, zt, zu, zw, zx, zy, zz, cE, jA, jB, hap, killE, deadOf, rwE, cD, cO, jC, jD, jE, jF, jG, jH, jI, jJ, jK, jL, jM, jN, jO, jP, jQ, jR, jS, jT, jU, jV, jW, jX, jY, hP, hk, res67, kp67, dA0, dG0, rowParse, rowSecD, enC, ecS, hq, d0, d1, d2, d3, d4, d5, d6, d7, d8, d9])
  exact ⟨hl7, hl7, fin c _ (by unfold argD; rw [if_neg h0, if_neg h1, if_neg h2, if_neg h3, if_neg h4, if_neg h5, if_neg h6, if_neg h7, if_neg h8, if_neg h9])⟩
end Go.Proofs.YtlaagebdbcmckaaGreatDoor
