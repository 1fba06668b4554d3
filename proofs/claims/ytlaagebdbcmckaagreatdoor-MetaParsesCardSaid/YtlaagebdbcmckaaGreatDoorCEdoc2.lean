/- The document's Line, Bad, Front, walked. Printed by gen_edoc2.py. -/
import Derived.Test.YtlaagebdbcmckaaGreatDoorCEdoc1
namespace Go.Proofs.YtlaagebdbcmckaaGreatDoor
set_option linter.unusedSimpArgs false
set_option linter.unusedVariables false
set_option linter.unusedSimpArgs false
set_option linter.unusedVariables false
set_option maxHeartbeats 8000000
open Go.RowKit
set_option maxRecDepth 100000
theorem line_at {b : List UInt8} {j : Nat} (hj : j < b.length) (h10 : b[j] = 10) (hall : ∀ c ∈ b.take j, c ≠ 10) : b.takeWhile (· != 10) = b.take j := by
  have h := List.take_append_drop j b
  rw [List.drop_eq_getElem_cons hj, h10] at h
  conv => lhs; rw [← h]
  rw [List.takeWhile_append_of_pos (by intro c hc; simpa using hall c hc)]
  simp
theorem line_none {b : List UInt8} (hall : ∀ c ∈ b, c ≠ 10) : b.takeWhile (· != 10) = b := by
  have := List.takeWhile_append_of_pos (p := (· != (10 : UInt8))) (l₁ := b) (l₂ := []) (fun c hc => by simpa using hall c hc)
  simpa using this
def slDl (b : List UInt8) (j : Nat) : List (Nat × SV) := [(4, .c (.i .i64 (j : Int))), (0, .c (.s b))]
theorem dline_w (b : List UInt8) (hb : b.length ≤ 9223372036854775806) (w : World) : Calls Tryz.prog 47 #[.string ⟨b.toArray⟩] w fun e w' => e = .returned (.tuple #[.string ⟨(lineV b).1.toArray⟩, .int .i64 ((lineV b).2 : Int)]) ∧ Below w.heap.size w w' := by
  refine calls_of_Run Tryz.func47 rfl kp47 (S := Non) (ρ := fun _ => reOf 0) (en := []) [.c (.s b)] Tryz.ntmps47 (At.nil _ _ _) (by simp [SV.wf, SC.wf]) (by simp) ?_
  intro C hC hP hk
  have hctr := dG0_ok hP
  have fin : ∀ l (n : Int) en, (lineV b).1 = l → ((lineV b).2 : Int) = n → Fin C res47 (.t [.c (.s l), .c (.i .i64 n)]) en := fun l n en hl hn => by subst hl; subst hn; exact Fin_ro (v := .t [.c (.s (lineV b).1), .c (.i .i64 ((lineV b).2 : Int))]) hC hres47 rfl (by simp [SV.wf, TE.wf, SC.wf])
  (refine VT_ok hctr (rs := res47) true 300 _ _ _ ?_; simp (maxSteps := 1000000) only [VT, jf, jg, jZ, ja, jd, je, VC, qA, qB, qC, qD, qE, qF, qG, qH, qI, qJ, qK, qL, qM, qN, qO, qP, qQ, qR, qS, qT, qU, qV, qW, qX, qY, qZ, qe, qf, qg, qh, qj, qk, ql, qm, qn, qo, qp, qq, q0t, qu, qv, ev, qw, qy, qz, zA, zB, zC, zD, zE, zF, zG, zH, zI, zJ, TE.sv, zK, zL, zM, ↓reduceIte, reduceCtorEq, Value.oneCell', Nat.reduceEqDiff, Nat.reduceAdd, Nat.reduceLT, Nat.reduceBEq, Nat.reduceSub, Nat.reduceLeDiff, zP, zQ, zR, zS, zT, zU, zV, zW, zX, zY, zZ, za, zb, zc, zd, ze, zf, zg, zh, zi, zj, zk, zl, zm, zn, zo, zp, zq, zr, zt, zu, zw, zx, zy, zz, cE, jA, jB, hap, killE, deadOf, rwE, cD, cO, jC, jD, jE, jF, jG, jH, jI, jJ, jK, jL, jM, jN, jO, jP, jQ, jR, jS, jT, jU, jV, jW, jX, jY, hP, hk, res47, kp47, dG0])
  refine Run_loopP (ι := { j : Nat // j ≤ b.length ∧ ∀ c ∈ b.take j, c ≠ 10 }) (fun j => slDl b j.1) (fun _ => []) (fun j => b.length - j.1) ⟨0, Nat.zero_le _, by simp⟩ (sub_mk ⟨rfl, rfl, trivial⟩) rfl ?_
  rintro ⟨j, hj, hall⟩ D dP dS dw dn dr dk ddf dPan dRet hX hJ
  have hP0 := hP; have hk0 := hk; have hctr0 := hctr
  have hP : D.P = Tryz.prog := by rw [dP]; exact hP0
  have hk : D.kp = kp47 := by rw [dk]; exact hk0
  have hctr : CtrOk D dG0 := dG0_ok hP
  have dFin : ∀ l (n : Int) en, (lineV b).1 = l → ((lineV b).2 : Int) = n → Fin D res47 (.t [.c (.s l), .c (.i .i64 n)]) en := fun l n en hl hn ρ a w' hw hn' hwf hd hr => dRet _ _ (fin l n en hl hn ρ a w' (hw.toC dS.symm dw.symm dr.symm dn.symm) (by rw [← dn]; exact hn') hwf (hd.trans ddf) (fun fn h => by rw [← dP]; exact hr fn h))
  show Run D _ _ (slDl b j) []
  by_cases hjn : j < b.length
  · obtain ⟨x, hx⟩ : ∃ x, b[j]? = some x := ⟨_, List.getElem?_eq_getElem hjn⟩
    have hxg := (List.getElem?_eq_some_iff.1 hx).2
    have hgd : b.getD j 0 = x := by rw [List.getD_eq_getElem?_getD, hx]; rfl
    have q1 : decide ((j : Int) < (b.length : Int)) = true := decide_eq_true (by omega)
    have p0 : (0 : Int) ≤ (j : Int) := by omega
    have p1 : (j : Int) < (b.length : Int) := by omega
    have p2 : (j : Int) ≤ (b.length : Int) := by omega
    have p3 : IntKind.i64.wrap ((j : Int) + 1) = ((j + 1 : Nat) : Int) := by rw [IntWalk.i64_in _ (by omega)]; rfl
    by_cases h10 : x = 10
    · have e0 : ((x.toNat : Int) != 10) = false := by rw [h10]; rfl
      have ht := line_at hjn (hxg.trans h10) hall
      have htl : (b.take j).length = j := by rw [List.length_take]; omega
      have hv : lineV b = (if (b.take j).getLast? = some 13 then (b.take j).dropLast else b.take j, j + 1) := by
        unfold lineV; rw [ht]; simp only [htl]; rw [if_pos hjn]
      by_cases hj0 : j = 0
      · subst hj0
        have q2 : decide ((0 : Int) < ((0 : Nat) : Int)) = false := rfl
        (refine VT_ok hctr (rs := res47) true 300 _ _ _ ?_; simp (maxSteps := 1000000) only [VT, jf, jg, jZ, ja, jd, je, VC, qA, qB, qC, qD, qE, qF, qG, qH, qI, qJ, qK, qL, qM, qN, qO, qP, qQ, qR, qS, qT, qU, qV, qW, qX, qY, qZ, qe, qf, qg, qh, qj, qk, ql, qm, qn, qo, qp, qq, q0t, qu, qv, ev, qw, qy, qz, zA, zB, zC, zD, zE, zF, zG, zH, zI, zJ, TE.sv, zK, zL, zM, ↓reduceIte, reduceCtorEq, Value.oneCell', Nat.reduceEqDiff, Nat.reduceAdd, Nat.reduceLT, Nat.reduceBEq, Nat.reduceSub, Nat.reduceLeDiff, zP, zQ, zR, zS, zT, zU, zV, zW, zX, zY, zZ, za, zb, zc, zd, ze, zf, zg, zh, zi, zj, zk, zl, zm, zn, zo, zp, zq, zr, zt, zu, zw, zx, zy, zz, cE, jA, jB, hap, killE, deadOf, rwE, cD, cO, jC, jD, jE, jF, jG, jH, jI, jJ, jK, jL, jM, jN, jO, jP, jQ, jR, jS, jT, jU, jV, jW, jX, jY, hP, hk, res47, kp47, dG0, slDl, q1, p0, p1, p2, p3, Int.toNat_natCast, hgd, e0, q2])
        exact ⟨Int.le_refl _, dFin _ _ _ (by rw [hv]; rfl) (by rw [hv])⟩
      · have q2 : decide ((0 : Int) < (j : Int)) = true := decide_eq_true (by omega)
        obtain ⟨y, hy⟩ : ∃ y, b[j - 1]? = some y := ⟨_, List.getElem?_eq_getElem (by omega)⟩
        have hgy : b.getD (j - 1) 0 = y := by rw [List.getD_eq_getElem?_getD, hy]; rfl
        have p4 : IntKind.i64.wrap ((j : Int) - 1) = ((j - 1 : Nat) : Int) := by rw [IntWalk.i64_in _ (by omega)]; omega
        have p5 : (0 : Int) ≤ ((j - 1 : Nat) : Int) := by omega
        have p6 : ((j - 1 : Nat) : Int) < (b.length : Int) := by omega
        have p7 : ((j - 1 : Nat) : Int) ≤ (b.length : Int) := by omega
        have hlast : (b.take j).getLast? = some y := by
          rw [List.getLast?_eq_getElem?, htl, List.getElem?_take_of_lt (by omega)]; exact hy
        have hdl : (b.take j).dropLast = b.take (j - 1) := by
          rw [List.dropLast_eq_take, htl, List.take_take, Nat.min_eq_left (by omega)]
        by_cases h13 : y = 13
        · have e1 : ((y.toNat : Int) == 13) = true := by rw [h13]; rfl
          (refine VT_ok hctr (rs := res47) true 300 _ _ _ ?_; simp (maxSteps := 1000000) only [VT, jf, jg, jZ, ja, jd, je, VC, qA, qB, qC, qD, qE, qF, qG, qH, qI, qJ, qK, qL, qM, qN, qO, qP, qQ, qR, qS, qT, qU, qV, qW, qX, qY, qZ, qe, qf, qg, qh, qj, qk, ql, qm, qn, qo, qp, qq, q0t, qu, qv, ev, qw, qy, qz, zA, zB, zC, zD, zE, zF, zG, zH, zI, zJ, TE.sv, zK, zL, zM, ↓reduceIte, reduceCtorEq, Value.oneCell', Nat.reduceEqDiff, Nat.reduceAdd, Nat.reduceLT, Nat.reduceBEq, Nat.reduceSub, Nat.reduceLeDiff, zP, zQ, zR, zS, zT, zU, zV, zW, zX, zY, zZ, za, zb, zc, zd, ze, zf, zg, zh, zi, zj, zk, zl, zm, zn, zo, zp, zq, zr, zt, zu, zw, zx, zy, zz, cE, jA, jB, hap, killE, deadOf, rwE, cD, cO, jC, jD, jE, jF, jG, jH, jI, jJ, jK, jL, jM, jN, jO, jP, jQ, jR, jS, jT, jU, jV, jW, jX, jY, hP, hk, res47, kp47, dG0, slDl, q1, p0, p1, p2, p3, p4, p5, p6, p7, Int.toNat_natCast, hgd, hgy, e0, e1, q2])
          exact ⟨Int.le_refl _, dFin _ _ _ (by rw [hv, hlast, h13, if_pos rfl, hdl]; rfl) (by rw [hv])⟩
        · have e1 : ((y.toNat : Int) == 13) = false := by
            rw [beq_eq_false_iff_ne]; intro h; exact h13 (UInt8.toNat_inj.1 (by have : (13 : UInt8).toNat = 13 := rfl; omega))
          (refine VT_ok hctr (rs := res47) true 300 _ _ _ ?_; simp (maxSteps := 1000000) only [VT, jf, jg, jZ, ja, jd, je, VC, qA, qB, qC, qD, qE, qF, qG, qH, qI, qJ, qK, qL, qM, qN, qO, qP, qQ, qR, qS, qT, qU, qV, qW, qX, qY, qZ, qe, qf, qg, qh, qj, qk, ql, qm, qn, qo, qp, qq, q0t, qu, qv, ev, qw, qy, qz, zA, zB, zC, zD, zE, zF, zG, zH, zI, zJ, TE.sv, zK, zL, zM, ↓reduceIte, reduceCtorEq, Value.oneCell', Nat.reduceEqDiff, Nat.reduceAdd, Nat.reduceLT, Nat.reduceBEq, Nat.reduceSub, Nat.reduceLeDiff, zP, zQ, zR, zS, zT, zU, zV, zW, zX, zY, zZ, za, zb, zc, zd, ze, zf, zg, zh, zi, zj, zk, zl, zm, zn, zo, zp, zq, zr, zt, zu, zw, zx, zy, zz, cE, jA, jB, hap, killE, deadOf, rwE, cD, cO, jC, jD, jE, jF, jG, jH, jI, jJ, jK, jL, jM, jN, jO, jP, jQ, jR, jS, jT, jU, jV, jW, jX, jY, hP, hk, res47, kp47, dG0, slDl, q1, p0, p1, p2, p3, p4, p5, p6, p7, Int.toNat_natCast, hgd, hgy, e0, e1, q2])
          exact ⟨Int.le_refl _, dFin _ _ _ (by rw [hv, hlast, if_neg (by simpa using h13)]; rfl) (by rw [hv])⟩
    · have e0 : ((x.toNat : Int) != 10) = true := by
        rw [bne_iff_ne]; intro h; exact h10 (UInt8.toNat_inj.1 (by have : (10 : UInt8).toNat = 10 := rfl; omega))
      (refine VT_ok hctr (rs := res47) true 300 _ _ _ ?_; simp (maxSteps := 1000000) only [VT, jf, jg, jZ, ja, jd, je, VC, qA, qB, qC, qD, qE, qF, qG, qH, qI, qJ, qK, qL, qM, qN, qO, qP, qQ, qR, qS, qT, qU, qV, qW, qX, qY, qZ, qe, qf, qg, qh, qj, qk, ql, qm, qn, qo, qp, qq, q0t, qu, qv, ev, qw, qy, qz, zA, zB, zC, zD, zE, zF, zG, zH, zI, zJ, TE.sv, zK, zL, zM, ↓reduceIte, reduceCtorEq, Value.oneCell', Nat.reduceEqDiff, Nat.reduceAdd, Nat.reduceLT, Nat.reduceBEq, Nat.reduceSub, Nat.reduceLeDiff, zP, zQ, zR, zS, zT, zU, zV, zW, zX, zY, zZ, za, zb, zc, zd, ze, zf, zg, zh, zi, zj, zk, zl, zm, zn, zo, zp, zq, zr, zt, zu, zw, zx, zy, zz, cE, jA, jB, hap, killE, deadOf, rwE, cD, cO, jC, jD, jE, jF, jG, jH, jI, jJ, jK, jL, jM, jN, jO, jP, jQ, jR, jS, jT, jU, jV, jW, jX, jY, hP, hk, res47, kp47, dG0, slDl, q1, p0, p1, p3, Int.toNat_natCast, hgd, e0])
      refine hJ ⟨j + 1, by omega, ?_⟩ _ (by show b.length - (j + 1) < b.length - j; omega) (sub_mk ⟨rfl, rfl, trivial⟩)
      intro c hc
      have htk : b.take (j + 1) = b.take j ++ [x] := by rw [List.take_add_one, hx]; rfl
      simp only [htk, List.mem_append, List.mem_singleton] at hc
      rcases hc with hc | rfl
      · exact hall c hc
      · exact h10
  · have q1 : decide ((j : Int) < (b.length : Int)) = false := decide_eq_false (by omega)
    (refine VT_ok hctr (rs := res47) true 300 _ _ _ ?_; simp (maxSteps := 1000000) only [VT, jf, jg, jZ, ja, jd, je, VC, qA, qB, qC, qD, qE, qF, qG, qH, qI, qJ, qK, qL, qM, qN, qO, qP, qQ, qR, qS, qT, qU, qV, qW, qX, qY, qZ, qe, qf, qg, qh, qj, qk, ql, qm, qn, qo, qp, qq, q0t, qu, qv, ev, qw, qy, qz, zA, zB, zC, zD, zE, zF, zG, zH, zI, zJ, TE.sv, zK, zL, zM, ↓reduceIte, reduceCtorEq, Value.oneCell', Nat.reduceEqDiff, Nat.reduceAdd, Nat.reduceLT, Nat.reduceBEq, Nat.reduceSub, Nat.reduceLeDiff, zP, zQ, zR, zS, zT, zU, zV, zW, zX, zY, zZ, za, zb, zc, zd, ze, zf, zg, zh, zi, zj, zk, zl, zm, zn, zo, zp, zq, zr, zt, zu, zw, zx, zy, zz, cE, jA, jB, hap, killE, deadOf, rwE, cD, cO, jC, jD, jE, jF, jG, jH, jI, jJ, jK, jL, jM, jN, jO, jP, jQ, jR, jS, jT, jU, jV, jW, jX, jY, hP, hk, res47, kp47, dG0, slDl, q1])
    refine hX rfl rfl ?_
    have hP := hP0; have hk := hk0; have hctr := hctr0
    rw [List.take_of_length_le (by omega)] at hall
    have hv : lineV b = ([], 0) := by
      unfold lineV; rw [line_none hall]; simp
    (refine VT_ok hctr (rs := res47) true 300 _ _ _ ?_; simp (maxSteps := 1000000) only [VT, jf, jg, jZ, ja, jd, je, VC, qA, qB, qC, qD, qE, qF, qG, qH, qI, qJ, qK, qL, qM, qN, qO, qP, qQ, qR, qS, qT, qU, qV, qW, qX, qY, qZ, qe, qf, qg, qh, qj, qk, ql, qm, qn, qo, qp, qq, q0t, qu, qv, ev, qw, qy, qz, zA, zB, zC, zD, zE, zF, zG, zH, zI, zJ, TE.sv, zK, zL, zM, ↓reduceIte, reduceCtorEq, Value.oneCell', Nat.reduceEqDiff, Nat.reduceAdd, Nat.reduceLT, Nat.reduceBEq, Nat.reduceSub, Nat.reduceLeDiff, zP, zQ, zR, zS, zT, zU, zV, zW, zX, zY, zZ, za, zb, zc, zd, ze, zf, zg, zh, zi, zj, zk, zl, zm, zn, zo, zp, zq, zr, zt, zu, zw, zx, zy, zz, cE, jA, jB, hap, killE, deadOf, rwE, cD, cO, jC, jD, jE, jF, jG, jH, jI, jJ, jK, jL, jM, jN, jO, jP, jQ, jR, jS, jT, jU, jV, jW, jX, jY, hP, hk, res47, kp47, dG0, slDl, q1])
    exact fin _ _ _ (by rw [hv]) (by rw [hv]; rfl)
theorem dbad_w (l : List UInt8) (w : World) (ρ : Nat → RE) : Calls Tryz.prog 23 #[.string ⟨l.toArray⟩] w fun e w' => e = .returned ((SV.g (mqS noS noS (badM l 0))).den ρ) ∧ Below w.heap.size w w' := by
  refine calls_of_Run Tryz.func23 rfl kp23 (S := Non) (ρ := ρ) (en := []) [.c (.s l)] Tryz.ntmps23 (At.nil _ _ _) (by simp [SV.wf, SC.wf]) (by simp) ?_
  intro C hC hP hk
  have hctr := noC_ok hP
  (refine VC_ok hctr (rs := res23) 200 _ _ _ ?_; simp (maxSteps := 1000000) only [VC, qA, qB, qC, qD, qE, qF, qG, qH, qI, qJ, qK, qL, qM, qN, qO, qP, qQ, qR, qS, qT, qU, qV, qW, qX, qY, qZ, qe, qf, qg, qh, qj, qk, ql, qm, qn, qo, qp, qq, q0t, qu, qv, ev, qw, qy, qz, zA, zB, zC, zD, zE, zF, zG, zH, zI, zJ, TE.sv, zK, zL, zM, ↓reduceIte, reduceCtorEq, Value.oneCell', Nat.reduceEqDiff, Nat.reduceAdd, Nat.reduceLT, Nat.reduceBEq, Nat.reduceSub, Nat.reduceLeDiff, zP, zQ, zR, zS, zT, zU, zV, zW, zX, zY, zZ, za, zb, zc, zd, ze, zf, zg, zh, zi, zj, zk, zl, zm, zn, zo, zp, zq, zr, zt, zu, zw, zx, zy, zz, cE, jA, jB, hap, killE, deadOf, rwE, cD, cO, jC, jD, jE, jF, jG, jH, jI, jJ, jK, jL, jM, jN, jO, jP, jQ, jR, jS, jT, jU, jV, jW, jX, jY, hP, hk, res23, kp23, noC])
  exact Fin_ro (v := .g (mqS noS noS (badM l 0))) hC hres23 rfl (by simp [SV.wf, wfs, SC.wf, mqS, noS])
def rowLineD : List SV → Option (Prop × SV)
  | [.c (.s b)] => some (b.length ≤ 9223372036854775806, .t [.c (.s (lineV b).1), .c (.i .i64 ((lineV b).2 : Int))])
  | _ => none
def rowBadD : List SV → Option (Prop × SV)
  | [.c (.s l)] => some (True, .g (mqS noS noS (badM l 0)))
  | _ => none
def dF0 : Ctr := fun f _ xs => match f with
  | 47 => rowLineD xs
  | 23 => rowBadD xs
  | _ => none
theorem dF0_ok {C : Cx} (hP : C.P = Tryz.prog) : CtrOk C dF0 := by
  intro f en xs p v h hp ρ w hup hHp hHo hinj hwf
  unfold dF0 at h
  split at h
  · rw [hP]
    refine ⟨fun args w => Tryz.call47 args w, ?_⟩
    unfold rowLineD at h
    split at h <;> simp only [Option.some.injEq, Prod.mk.injEq, reduceCtorEq] at h
    obtain ⟨rfl, rfl⟩ := h
    exact ⟨by simp [SV.wf, TE.wf, SC.wf], dline_w _ hp w⟩
  · rw [hP]
    refine ⟨fun args w => Tryz.call23 args w, ?_⟩
    unfold rowBadD at h
    split at h <;> simp only [Option.some.injEq, Prod.mk.injEq, reduceCtorEq] at h
    obtain ⟨rfl, rfl⟩ := h
    exact ⟨by simp [SV.wf, wfs, SC.wf, mqS, noS], dbad_w _ w ρ⟩
  · cases h
def frontF (b : List UInt8) : List UInt8 × Nat × Mq × Bool :=
  if 0 < (lineV b).2 ∧ (lineV b).2 ≤ 2048 then ((lineV b).1, (lineV b).2, Mq.zero, true)
  else if b.length < 2048 then ([], 0, Mq.zero, false) else ([], 2048, { badM b_long 0 with close := true }, false)
theorem dfront_w (b : List UInt8) (hb : b.length ≤ 9223372036854775806) (w : World) (ρ : Nat → RE) : Calls Tryz.prog 21 #[.string ⟨b.toArray⟩] w fun e w' => e = .returned ((SV.t [.c (.s (frontF b).1), .c (.i .i64 ((frontF b).2.1 : Int)), .g (mqS noS noS (frontF b).2.2.1), .c (.b (frontF b).2.2.2)]).den ρ) ∧ Below w.heap.size w w' := by
  refine calls_of_Run Tryz.func21 rfl kp21 (S := Non) (ρ := ρ) (en := []) [.c (.s b)] Tryz.ntmps21 (At.nil _ _ _) (by simp [SV.wf, SC.wf]) (by simp) ?_
  intro C hC hP hk
  have hctr := dF0_ok hP
  have fin : ∀ l (n : Int) r k en, (frontF b).1 = l → ((frontF b).2.1 : Int) = n → (frontF b).2.2.1 = r → (frontF b).2.2.2 = k → Fin C res21 (.t [.c (.s l), .c (.i .i64 n), .g (mqS noS noS r), .c (.b k)]) en := fun l n r k en h1 h2 h3 h4 => by
    subst h1; subst h2; subst h3; subst h4
    exact Fin_ro (v := .t [.c (.s (frontF b).1), .c (.i .i64 ((frontF b).2.1 : Int)), .g (mqS noS noS (frontF b).2.2.1), .c (.b (frontF b).2.2.2)]) hC hres21 rfl (by simp [SV.wf, TE.wf, wfs, SC.wf, mqS, noS])
  obtain ⟨s, n, hL⟩ : ∃ s n, lineV b = (s, n) := ⟨_, _, rfl⟩
  by_cases h0 : (0 : Int) < (n : Int)
  · have c0 : decide ((0 : Int) < (n : Int)) = true := decide_eq_true h0
    by_cases h1 : (n : Int) ≤ 2048
    · have c1 : decide ((n : Int) ≤ 2048) = true := decide_eq_true h1
      (refine VT_ok hctr (rs := res21) true 300 _ _ _ ?_; simp (maxSteps := 1000000) only [VT, jf, jg, jZ, ja, jd, je, VC, qA, qB, qC, qD, qE, qF, qG, qH, qI, qJ, qK, qL, qM, qN, qO, qP, qQ, qR, qS, qT, qU, qV, qW, qX, qY, qZ, qe, qf, qg, qh, qj, qk, ql, qm, qn, qo, qp, qq, q0t, qu, qv, ev, qw, qy, qz, zA, zB, zC, zD, zE, zF, zG, zH, zI, zJ, TE.sv, zK, zL, zM, ↓reduceIte, reduceCtorEq, Value.oneCell', Nat.reduceEqDiff, Nat.reduceAdd, Nat.reduceLT, Nat.reduceBEq, Nat.reduceSub, Nat.reduceLeDiff, zP, zQ, zR, zS, zT, zU, zV, zW, zX, zY, zZ, za, zb, zc, zd, ze, zf, zg, zh, zi, zj, zk, zl, zm, zn, zo, zp, zq, zr, zt, zu, zw, zx, zy, zz, cE, jA, jB, hap, killE, deadOf, rwE, cD, cO, jC, jD, jE, jF, jG, jH, jI, jJ, jK, jL, jM, jN, jO, jP, jQ, jR, jS, jT, jU, jV, jW, jX, jY, hP, hk, res21, kp21, dF0, rowLineD, rowBadD, mqS, noS, badM, hL, c0, c1])
      have hf : frontF b = (s, n, Mq.zero, true) := by unfold frontF; rw [hL]; rw [if_pos ⟨by simp only; omega, by simp only; omega⟩]
      exact ⟨hb, fin _ _ Mq.zero _ _ (by rw [hf]) (by rw [hf]) (by rw [hf]) (by rw [hf])⟩
    · have c1 : decide ((n : Int) ≤ 2048) = false := decide_eq_false h1
      by_cases h2 : (b.length : Int) < 2048
      · have c2 : decide ((b.length : Int) < 2048) = true := decide_eq_true h2
        (refine VT_ok hctr (rs := res21) true 300 _ _ _ ?_; simp (maxSteps := 1000000) only [VT, jf, jg, jZ, ja, jd, je, VC, qA, qB, qC, qD, qE, qF, qG, qH, qI, qJ, qK, qL, qM, qN, qO, qP, qQ, qR, qS, qT, qU, qV, qW, qX, qY, qZ, qe, qf, qg, qh, qj, qk, ql, qm, qn, qo, qp, qq, q0t, qu, qv, ev, qw, qy, qz, zA, zB, zC, zD, zE, zF, zG, zH, zI, zJ, TE.sv, zK, zL, zM, ↓reduceIte, reduceCtorEq, Value.oneCell', Nat.reduceEqDiff, Nat.reduceAdd, Nat.reduceLT, Nat.reduceBEq, Nat.reduceSub, Nat.reduceLeDiff, zP, zQ, zR, zS, zT, zU, zV, zW, zX, zY, zZ, za, zb, zc, zd, ze, zf, zg, zh, zi, zj, zk, zl, zm, zn, zo, zp, zq, zr, zt, zu, zw, zx, zy, zz, cE, jA, jB, hap, killE, deadOf, rwE, cD, cO, jC, jD, jE, jF, jG, jH, jI, jJ, jK, jL, jM, jN, jO, jP, jQ, jR, jS, jT, jU, jV, jW, jX, jY, hP, hk, res21, kp21, dF0, rowLineD, rowBadD, mqS, noS, badM, hL, c0, c1, c2])
        have hf : frontF b = ([], 0, Mq.zero, false) := by unfold frontF; rw [hL]; rw [if_neg (fun h => by have := h.1; have := h.2; simp only at *; omega), if_pos (by omega)]
        exact ⟨hb, fin _ _ Mq.zero _ _ (by rw [hf]) (by rw [hf]; rfl) (by rw [hf]) (by rw [hf])⟩
      · have c2 : decide ((b.length : Int) < 2048) = false := decide_eq_false h2
        have hf : frontF b = ([], 2048, { badM b_long 0 with close := true }, false) := by unfold frontF; rw [hL]; rw [if_neg (fun h => by have := h.1; have := h.2; simp only at *; omega), if_neg (by omega)]
        (refine VT_ok hctr (rs := res21) true 300 _ _ _ ?_; simp (maxSteps := 1000000) only [VT, jf, jg, jZ, ja, jd, je, VC, qA, qB, qC, qD, qE, qF, qG, qH, qI, qJ, qK, qL, qM, qN, qO, qP, qQ, qR, qS, qT, qU, qV, qW, qX, qY, qZ, qe, qf, qg, qh, qj, qk, ql, qm, qn, qo, qp, qq, q0t, qu, qv, ev, qw, qy, qz, zA, zB, zC, zD, zE, zF, zG, zH, zI, zJ, TE.sv, zK, zL, zM, ↓reduceIte, reduceCtorEq, Value.oneCell', Nat.reduceEqDiff, Nat.reduceAdd, Nat.reduceLT, Nat.reduceBEq, Nat.reduceSub, Nat.reduceLeDiff, zP, zQ, zR, zS, zT, zU, zV, zW, zX, zY, zZ, za, zb, zc, zd, ze, zf, zg, zh, zi, zj, zk, zl, zm, zn, zo, zp, zq, zr, zt, zu, zw, zx, zy, zz, cE, jA, jB, hap, killE, deadOf, rwE, cD, cO, jC, jD, jE, jF, jG, jH, jI, jJ, jK, jL, jM, jN, jO, jP, jQ, jR, jS, jT, jU, jV, jW, jX, jY, hP, hk, res21, kp21, dF0, rowLineD, rowBadD, mqS, noS, badM, hL, c0, c1, c2])
        refine ⟨hb, ?_⟩
        (refine Run_drawD hctr (by rw [hP]; rfl) rs21_8 [] (ensure_type_of% (Cmp.of (by simp (maxSteps := 1000000) only [VC, qA, qB, qC, qD, qE, qF, qG, qH, qI, qJ, qK, qL, qM, qN, qO, qP, qQ, qR, qS, qT, qU, qV, qW, qX, qY, qZ, qe, qf, qg, qh, qj, qk, ql, qm, qn, qo, qp, qq, q0t, qu, qv, ev, qw, qy, qz, zA, zB, zC, zD, zE, zF, zG, zH, zI, zJ, TE.sv, zK, zL, zM, ↓reduceIte, reduceCtorEq, Value.oneCell', Nat.reduceEqDiff, Nat.reduceAdd, Nat.reduceLT, Nat.reduceBEq, Nat.reduceSub, Nat.reduceLeDiff, zP, zQ, zR, zS, zT, zU, zV, zW, zX, zY, zZ, za, zb, zc, zd, ze, zf, zg, zh, zi, zj, zk, zl, zm, zn, zo, zp, zq, zr, zt, zu, zw, zx, zy, zz, cE, jA, jB, hap, killE, deadOf, rwE, cD, cO, jC, jD, jE, jF, jG, jH, jI, jJ, jK, jL, jM, jN, jO, jP, jQ, jR, jS, jT, jU, jV, jW, jX, jY, hP, dF0]; rfl)) "" Cmp.mk) (by kernel_rfl) (by kernel_rfl) (by first | exact lenB_one _ | kernel_rfl) (by kernel_rfl) (by rfl) (by rfl) (by first | exact firstN_self _ | rfl) (by rfl) (by simp (maxSteps := 1000000) only [VC, qA, qB, qC, qD, qE, qF, qG, qH, qI, qJ, qK, qL, qM, qN, qO, qP, qQ, qR, qS, qT, qU, qV, qW, qX, qY, qZ, qe, qf, qg, qh, qj, qk, ql, qm, qn, qo, qp, qq, q0t, qu, qv, ev, qw, qy, qz, zA, zB, zC, zD, zE, zF, zG, zH, zI, zJ, TE.sv, zK, zL, zM, ↓reduceIte, reduceCtorEq, Value.oneCell', Nat.reduceEqDiff, Nat.reduceAdd, Nat.reduceLT, Nat.reduceBEq, Nat.reduceSub, Nat.reduceLeDiff, zP, zQ, zR, zS, zT, zU, zV, zW, zX, zY, zZ, za, zb, zc, zd, ze, zf, zg, zh, zi, zj, zk, zl, zm, zn, zo, zp, zq, zr, zt, zu, zw, zx, zy, zz, cE, jA, jB, hap, killE, deadOf, rwE, cD, cO, jC, jD, jE, jF, jG, jH, jI, jJ, jK, jL, jM, jN, jO, jP, jQ, jR, jS, jT, jU, jV, jW, jX, jY, hP, dF0]) ?_; refine VT_ok hctr (rs := res21) true 300 _ _ _ ?_; simp (maxSteps := 1000000) only [VT, jf, jg, jZ, ja, jd, je, VC, qA, qB, qC, qD, qE, qF, qG, qH, qI, qJ, qK, qL, qM, qN, qO, qP, qQ, qR, qS, qT, qU, qV, qW, qX, qY, qZ, qe, qf, qg, qh, qj, qk, ql, qm, qn, qo, qp, qq, q0t, qu, qv, ev, qw, qy, qz, zA, zB, zC, zD, zE, zF, zG, zH, zI, zJ, TE.sv, zK, zL, zM, ↓reduceIte, reduceCtorEq, Value.oneCell', Nat.reduceEqDiff, Nat.reduceAdd, Nat.reduceLT, Nat.reduceBEq, Nat.reduceSub, Nat.reduceLeDiff, zP, zQ, zR, zS, zT, zU, zV, zW, zX, zY, zZ, za, zb, zc, zd, ze, zf, zg, zh, zi, zj, zk, zl, zm, zn, zo, zp, zq, zr, zt, zu, zw, zx, zy, zz, cE, jA, jB, hap, killE, deadOf, rwE, cD, cO, jC, jD, jE, jF, jG, jH, jI, jJ, jK, jL, jM, jN, jO, jP, jQ, jR, jS, jT, jU, jV, jW, jX, jY, hP, hk, res21, kp21, dF0])
        exact fin _ _ { badM b_long 0 with close := true } _ _ (by rw [hf]) (by rw [hf]; rfl) (by rw [hf]) (by rw [hf])
  · have c0 : decide ((0 : Int) < (n : Int)) = false := decide_eq_false h0
    by_cases h2 : (b.length : Int) < 2048
    · have c2 : decide ((b.length : Int) < 2048) = true := decide_eq_true h2
      (refine VT_ok hctr (rs := res21) true 300 _ _ _ ?_; simp (maxSteps := 1000000) only [VT, jf, jg, jZ, ja, jd, je, VC, qA, qB, qC, qD, qE, qF, qG, qH, qI, qJ, qK, qL, qM, qN, qO, qP, qQ, qR, qS, qT, qU, qV, qW, qX, qY, qZ, qe, qf, qg, qh, qj, qk, ql, qm, qn, qo, qp, qq, q0t, qu, qv, ev, qw, qy, qz, zA, zB, zC, zD, zE, zF, zG, zH, zI, zJ, TE.sv, zK, zL, zM, ↓reduceIte, reduceCtorEq, Value.oneCell', Nat.reduceEqDiff, Nat.reduceAdd, Nat.reduceLT, Nat.reduceBEq, Nat.reduceSub, Nat.reduceLeDiff, zP, zQ, zR, zS, zT, zU, zV, zW, zX, zY, zZ, za, zb, zc, zd, ze, zf, zg, zh, zi, zj, zk, zl, zm, zn, zo, zp, zq, zr, zt, zu, zw, zx, zy, zz, cE, jA, jB, hap, killE, deadOf, rwE, cD, cO, jC, jD, jE, jF, jG, jH, jI, jJ, jK, jL, jM, jN, jO, jP, jQ, jR, jS, jT, jU, jV, jW, jX, jY, hP, hk, res21, kp21, dF0, rowLineD, rowBadD, mqS, noS, badM, hL, c0, c2])
      have hf : frontF b = ([], 0, Mq.zero, false) := by unfold frontF; rw [hL]; rw [if_neg (fun h => by have := h.1; have := h.2; simp only at *; omega), if_pos (by omega)]
      exact ⟨hb, fin _ _ Mq.zero _ _ (by rw [hf]) (by rw [hf]; rfl) (by rw [hf]) (by rw [hf])⟩
    · have c2 : decide ((b.length : Int) < 2048) = false := decide_eq_false h2
      have hf : frontF b = ([], 2048, { badM b_long 0 with close := true }, false) := by unfold frontF; rw [hL]; rw [if_neg (fun h => by have := h.1; have := h.2; simp only at *; omega), if_neg (by omega)]
      (refine VT_ok hctr (rs := res21) true 300 _ _ _ ?_; simp (maxSteps := 1000000) only [VT, jf, jg, jZ, ja, jd, je, VC, qA, qB, qC, qD, qE, qF, qG, qH, qI, qJ, qK, qL, qM, qN, qO, qP, qQ, qR, qS, qT, qU, qV, qW, qX, qY, qZ, qe, qf, qg, qh, qj, qk, ql, qm, qn, qo, qp, qq, q0t, qu, qv, ev, qw, qy, qz, zA, zB, zC, zD, zE, zF, zG, zH, zI, zJ, TE.sv, zK, zL, zM, ↓reduceIte, reduceCtorEq, Value.oneCell', Nat.reduceEqDiff, Nat.reduceAdd, Nat.reduceLT, Nat.reduceBEq, Nat.reduceSub, Nat.reduceLeDiff, zP, zQ, zR, zS, zT, zU, zV, zW, zX, zY, zZ, za, zb, zc, zd, ze, zf, zg, zh, zi, zj, zk, zl, zm, zn, zo, zp, zq, zr, zt, zu, zw, zx, zy, zz, cE, jA, jB, hap, killE, deadOf, rwE, cD, cO, jC, jD, jE, jF, jG, jH, jI, jJ, jK, jL, jM, jN, jO, jP, jQ, jR, jS, jT, jU, jV, jW, jX, jY, hP, hk, res21, kp21, dF0, rowLineD, rowBadD, mqS, noS, badM, hL, c0, c2])
      refine ⟨hb, ?_⟩
      (refine Run_drawD hctr (by rw [hP]; rfl) rs21_8 [] (ensure_type_of% (Cmp.of (by simp (maxSteps := 1000000) only [VC, qA, qB, qC, qD, qE, qF, qG, qH, qI, qJ, qK, qL, qM, qN, qO, qP, qQ, qR, qS, qT, qU, qV, qW, qX, qY, qZ, qe, qf, qg, qh, qj, qk, ql, qm, qn, qo, qp, qq, q0t, qu, qv, ev, qw, qy, qz, zA, zB, zC, zD, zE, zF, zG, zH, zI, zJ, TE.sv, zK, zL, zM, ↓reduceIte, reduceCtorEq, Value.oneCell', Nat.reduceEqDiff, Nat.reduceAdd, Nat.reduceLT, Nat.reduceBEq, Nat.reduceSub, Nat.reduceLeDiff, zP, zQ, zR, zS, zT, zU, zV, zW, zX, zY, zZ, za, zb, zc, zd, ze, zf, zg, zh, zi, zj, zk, zl, zm, zn, zo, zp, zq, zr, zt, zu, zw, zx, zy, zz, cE, jA, jB, hap, killE, deadOf, rwE, cD, cO, jC, jD, jE, jF, jG, jH, jI, jJ, jK, jL, jM, jN, jO, jP, jQ, jR, jS, jT, jU, jV, jW, jX, jY, hP, dF0]; rfl)) "" Cmp.mk) (by kernel_rfl) (by kernel_rfl) (by first | exact lenB_one _ | kernel_rfl) (by kernel_rfl) (by rfl) (by rfl) (by first | exact firstN_self _ | rfl) (by rfl) (by simp (maxSteps := 1000000) only [VC, qA, qB, qC, qD, qE, qF, qG, qH, qI, qJ, qK, qL, qM, qN, qO, qP, qQ, qR, qS, qT, qU, qV, qW, qX, qY, qZ, qe, qf, qg, qh, qj, qk, ql, qm, qn, qo, qp, qq, q0t, qu, qv, ev, qw, qy, qz, zA, zB, zC, zD, zE, zF, zG, zH, zI, zJ, TE.sv, zK, zL, zM, ↓reduceIte, reduceCtorEq, Value.oneCell', Nat.reduceEqDiff, Nat.reduceAdd, Nat.reduceLT, Nat.reduceBEq, Nat.reduceSub, Nat.reduceLeDiff, zP, zQ, zR, zS, zT, zU, zV, zW, zX, zY, zZ, za, zb, zc, zd, ze, zf, zg, zh, zi, zj, zk, zl, zm, zn, zo, zp, zq, zr, zt, zu, zw, zx, zy, zz, cE, jA, jB, hap, killE, deadOf, rwE, cD, cO, jC, jD, jE, jF, jG, jH, jI, jJ, jK, jL, jM, jN, jO, jP, jQ, jR, jS, jT, jU, jV, jW, jX, jY, hP, dF0]) ?_; refine VT_ok hctr (rs := res21) true 300 _ _ _ ?_; simp (maxSteps := 1000000) only [VT, jf, jg, jZ, ja, jd, je, VC, qA, qB, qC, qD, qE, qF, qG, qH, qI, qJ, qK, qL, qM, qN, qO, qP, qQ, qR, qS, qT, qU, qV, qW, qX, qY, qZ, qe, qf, qg, qh, qj, qk, ql, qm, qn, qo, qp, qq, q0t, qu, qv, ev, qw, qy, qz, zA, zB, zC, zD, zE, zF, zG, zH, zI, zJ, TE.sv, zK, zL, zM, ↓reduceIte, reduceCtorEq, Value.oneCell', Nat.reduceEqDiff, Nat.reduceAdd, Nat.reduceLT, Nat.reduceBEq, Nat.reduceSub, Nat.reduceLeDiff, zP, zQ, zR, zS, zT, zU, zV, zW, zX, zY, zZ, za, zb, zc, zd, ze, zf, zg, zh, zi, zj, zk, zl, zm, zn, zo, zp, zq, zr, zt, zu, zw, zx, zy, zz, cE, jA, jB, hap, killE, deadOf, rwE, cD, cO, jC, jD, jE, jF, jG, jH, jI, jJ, jK, jL, jM, jN, jO, jP, jQ, jR, jS, jT, jU, jV, jW, jX, jY, hP, hk, res21, kp21, dF0])
      exact fin _ _ { badM b_long 0 with close := true } _ _ (by rw [hf]) (by rw [hf]; rfl) (by rw [hf]) (by rw [hf])
end Go.Proofs.YtlaagebdbcmckaaGreatDoor
