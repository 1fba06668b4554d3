/- The document's small functions of the meta grammar, walked. Printed by gen_edoc1.py. -/
import Derived.Test.YtlaagebdbcmckaaGreatDoorCEmq
import Derived.Test.YtlaagebdbcmckaaGreatDoorCErsig
namespace Go.Proofs.YtlaagebdbcmckaaGreatDoor
set_option linter.unusedSimpArgs false
set_option linter.unusedVariables false
set_option linter.unusedSimpArgs false
set_option linter.unusedVariables false
set_option maxHeartbeats 8000000
open Go.RowKit
set_option maxRecDepth 100000
def dG0 : Ctr := fun f _ xs => match f with
  | 48 => rowParse xs
  | 114 => rowSigned xs
  | _ => none
theorem dG0_ok {C : Cx} (hP : C.P = Tryz.prog) : CtrOk C dG0 := by
  intro f en xs p v h hp ρ w hup hHp hHo hinj hwf
  unfold dG0 at h
  split at h
  · rw [hP]
    refine ⟨fun args w => Tryz.call48 args w, ?_⟩
    unfold rowParse at h
    split at h <;> simp only [Option.some.injEq, Prod.mk.injEq, reduceCtorEq] at h
    obtain ⟨rfl, rfl⟩ := h
    refine ⟨by simp [SV.wf, TE.wf, SC.wf], (rparse _ hp w).mono ?_⟩
    rintro e w' ⟨rfl, rfl⟩
    exact ⟨rfl, Below.refl _ _⟩
  · rw [hP]
    refine ⟨fun args w => Tryz.call114 args w, ?_⟩
    unfold rowSigned at h
    split at h <;> simp only [Option.some.injEq, Prod.mk.injEq, reduceCtorEq] at h
    obtain ⟨rfl, rfl⟩ := h
    refine ⟨by simp [SV.wf, TE.wf, SC.wf], (rsigned _ hp w).mono ?_⟩
    rintro e w' ⟨rfl, rfl⟩
    exact ⟨rfl, Below.refl _ _⟩
  · cases h
def dsecF (l : List UInt8) : Int × Bool := if (secF l).2 then secF l else (0, false)
theorem dsecs_w (l : List UInt8) (hl : l.length ≤ 9223372036854775807) (w : World) : Calls Tryz.prog 88 #[.string ⟨l.toArray⟩] w fun e w' => e = .returned (.tuple #[.int .i64 (dsecF l).1, .bool (dsecF l).2]) ∧ Below w.heap.size w w' := by
  refine calls_of_Run Tryz.func88 rfl kp88 (S := Non) (ρ := fun _ => reOf 0) (en := []) [.c (.s l)] Tryz.ntmps88 (At.nil _ _ _) (by simp [SV.wf, SC.wf]) (by simp) ?_
  intro C hC hP hk
  have hctr := dG0_ok hP
  have fin : ∀ n b en, dsecF l = (n, b) → Fin C res88 (.t [.c (.i .i64 n), .c (.b b)]) en := fun n b en h => Fin_ro (v := .t [.c (.i .i64 (dsecF l).1), .c (.b (dsecF l).2)]) hC hres88 (by rw [h]) (by simp [SV.wf, TE.wf, SC.wf])
  cases hv : signedV l with
  | none =>
    (refine VT_ok hctr (rs := res88) true 200 _ _ _ ?_; simp (maxSteps := 1000000) only [VT, jf, jg, jZ, ja, jd, je, VC, qA, qB, qC, qD, qE, qF, qG, qH, qI, qJ, qK, qL, qM, qN, qO, qP, qQ, qR, qS, qT, qU, qV, qW, qX, qY, qZ, qe, qf, qg, qh, qj, qk, ql, qm, qn, qo, qp, qq, q0t, qu, qv, ev, qw, qy, qz, zA, zB, zC, zD, zE, zF, zG, zH, zI, zJ, TE.sv, zK, zL, zM, ↓reduceIte, reduceCtorEq, Value.oneCell', Nat.reduceEqDiff, Nat.reduceAdd, Nat.reduceLT, Nat.reduceBEq, Nat.reduceSub, Nat.reduceLeDiff, zP, zQ, zR, zS, zT, zU, zV, zW, zX, zY, zZ, za, zb, zc, zd, ze, zf, zg, zh, zi, zj, zk, zl, zm, zn, zo, zp, zq, zr, zt, zu, zw, zx, zy, zz, cE, jA, jB, hap, killE, deadOf, rwE, cD, cO, jC, jD, jE, jF, jG, jH, jI, jJ, jK, jL, jM, jN, jO, jP, jQ, jR, jS, jT, jU, jV, jW, jX, jY, hP, hk, res88, kp88, dG0, rowSigned, hv, Option.getD_none, Option.isSome_none, Bool.not_false])
    exact ⟨hl, fin _ _ _ (by simp [dsecF, secF, hv])⟩
  | some n =>
    by_cases h1 : n < -1099511627776
    · have c1 : decide (n < -1099511627776) = true := decide_eq_true h1
      (refine VT_ok hctr (rs := res88) true 200 _ _ _ ?_; simp (maxSteps := 1000000) only [VT, jf, jg, jZ, ja, jd, je, VC, qA, qB, qC, qD, qE, qF, qG, qH, qI, qJ, qK, qL, qM, qN, qO, qP, qQ, qR, qS, qT, qU, qV, qW, qX, qY, qZ, qe, qf, qg, qh, qj, qk, ql, qm, qn, qo, qp, qq, q0t, qu, qv, ev, qw, qy, qz, zA, zB, zC, zD, zE, zF, zG, zH, zI, zJ, TE.sv, zK, zL, zM, ↓reduceIte, reduceCtorEq, Value.oneCell', Nat.reduceEqDiff, Nat.reduceAdd, Nat.reduceLT, Nat.reduceBEq, Nat.reduceSub, Nat.reduceLeDiff, zP, zQ, zR, zS, zT, zU, zV, zW, zX, zY, zZ, za, zb, zc, zd, ze, zf, zg, zh, zi, zj, zk, zl, zm, zn, zo, zp, zq, zr, zt, zu, zw, zx, zy, zz, cE, jA, jB, hap, killE, deadOf, rwE, cD, cO, jC, jD, jE, jF, jG, jH, jI, jJ, jK, jL, jM, jN, jO, jP, jQ, jR, jS, jT, jU, jV, jW, jX, jY, hP, hk, res88, kp88, dG0, rowSigned, hv, Option.getD_some, Option.isSome_some, c1, Bool.not_true])
      exact ⟨hl, fin _ _ _ (by simp [dsecF, secF, hv, nearB]; omega)⟩
    have c1 : decide (n < -1099511627776) = false := decide_eq_false h1
    by_cases h2 : 1099511627776 < n
    · have c2 : decide (1099511627776 < n) = true := decide_eq_true h2
      (refine VT_ok hctr (rs := res88) true 200 _ _ _ ?_; simp (maxSteps := 1000000) only [VT, jf, jg, jZ, ja, jd, je, VC, qA, qB, qC, qD, qE, qF, qG, qH, qI, qJ, qK, qL, qM, qN, qO, qP, qQ, qR, qS, qT, qU, qV, qW, qX, qY, qZ, qe, qf, qg, qh, qj, qk, ql, qm, qn, qo, qp, qq, q0t, qu, qv, ev, qw, qy, qz, zA, zB, zC, zD, zE, zF, zG, zH, zI, zJ, TE.sv, zK, zL, zM, ↓reduceIte, reduceCtorEq, Value.oneCell', Nat.reduceEqDiff, Nat.reduceAdd, Nat.reduceLT, Nat.reduceBEq, Nat.reduceSub, Nat.reduceLeDiff, zP, zQ, zR, zS, zT, zU, zV, zW, zX, zY, zZ, za, zb, zc, zd, ze, zf, zg, zh, zi, zj, zk, zl, zm, zn, zo, zp, zq, zr, zt, zu, zw, zx, zy, zz, cE, jA, jB, hap, killE, deadOf, rwE, cD, cO, jC, jD, jE, jF, jG, jH, jI, jJ, jK, jL, jM, jN, jO, jP, jQ, jR, jS, jT, jU, jV, jW, jX, jY, hP, hk, res88, kp88, dG0, rowSigned, hv, Option.getD_some, Option.isSome_some, c1, c2, Bool.not_true])
      exact ⟨hl, fin _ _ _ (by simp [dsecF, secF, hv, nearB]; omega)⟩
    have c2 : decide (1099511627776 < n) = false := decide_eq_false h2
    (refine VT_ok hctr (rs := res88) true 200 _ _ _ ?_; simp (maxSteps := 1000000) only [VT, jf, jg, jZ, ja, jd, je, VC, qA, qB, qC, qD, qE, qF, qG, qH, qI, qJ, qK, qL, qM, qN, qO, qP, qQ, qR, qS, qT, qU, qV, qW, qX, qY, qZ, qe, qf, qg, qh, qj, qk, ql, qm, qn, qo, qp, qq, q0t, qu, qv, ev, qw, qy, qz, zA, zB, zC, zD, zE, zF, zG, zH, zI, zJ, TE.sv, zK, zL, zM, ↓reduceIte, reduceCtorEq, Value.oneCell', Nat.reduceEqDiff, Nat.reduceAdd, Nat.reduceLT, Nat.reduceBEq, Nat.reduceSub, Nat.reduceLeDiff, zP, zQ, zR, zS, zT, zU, zV, zW, zX, zY, zZ, za, zb, zc, zd, ze, zf, zg, zh, zi, zj, zk, zl, zm, zn, zo, zp, zq, zr, zt, zu, zw, zx, zy, zz, cE, jA, jB, hap, killE, deadOf, rwE, cD, cO, jC, jD, jE, jF, jG, jH, jI, jJ, jK, jL, jM, jN, jO, jP, jQ, jR, jS, jT, jU, jV, jW, jX, jY, hP, hk, res88, kp88, dG0, rowSigned, hv, Option.getD_some, Option.isSome_some, c1, c2, Bool.not_true])
    have hn : nearB n = true := by simp [nearB]; omega
    exact ⟨hl, fin _ _ _ (by simp [dsecF, secF, hv, hn])⟩
def slDh (s : List UInt8) (c : UInt8) (j : Nat) : List (Nat × SV) := [(5, .c (.i .i64 (j : Int))), (1, .c (.i .u8 (c.toNat : Int))), (0, .c (.s s))]
theorem dhas_w (s : List UInt8) (c : UInt8) (hs : s.length ≤ 9223372036854775806) (w : World) : Calls Tryz.prog 66 #[.string ⟨s.toArray⟩, .int .u8 (c.toNat : Int)] w fun e w' => e = .returned (.bool (s.contains c)) ∧ Below w.heap.size w w' := by
  refine calls_of_Run Tryz.func66 rfl kp66 (S := Non) (ρ := fun _ => reOf 0) (en := []) [.c (.s s), .c (.i .u8 (c.toNat : Int))] Tryz.ntmps66 (At.nil _ _ _) (by simp [SV.wf, SC.wf]) (by simp) ?_
  intro C hC hP hk
  have hctr := dG0_ok hP
  have fin : ∀ b en, b = s.contains c → Fin C res66 (.c (.b b)) en := fun b en hb => by subst hb; exact Fin_ro (v := .c (.b (s.contains c))) hC hres66 rfl trivial
  (refine VT_ok hctr (rs := res66) true 300 _ _ _ ?_; simp (maxSteps := 1000000) only [VT, jf, jg, jZ, ja, jd, je, VC, qA, qB, qC, qD, qE, qF, qG, qH, qI, qJ, qK, qL, qM, qN, qO, qP, qQ, qR, qS, qT, qU, qV, qW, qX, qY, qZ, qe, qf, qg, qh, qj, qk, ql, qm, qn, qo, qp, qq, q0t, qu, qv, ev, qw, qy, qz, zA, zB, zC, zD, zE, zF, zG, zH, zI, zJ, TE.sv, zK, zL, zM, ↓reduceIte, reduceCtorEq, Value.oneCell', Nat.reduceEqDiff, Nat.reduceAdd, Nat.reduceLT, Nat.reduceBEq, Nat.reduceSub, Nat.reduceLeDiff, zP, zQ, zR, zS, zT, zU, zV, zW, zX, zY, zZ, za, zb, zc, zd, ze, zf, zg, zh, zi, zj, zk, zl, zm, zn, zo, zp, zq, zr, zt, zu, zw, zx, zy, zz, cE, jA, jB, hap, killE, deadOf, rwE, cD, cO, jC, jD, jE, jF, jG, jH, jI, jJ, jK, jL, jM, jN, jO, jP, jQ, jR, jS, jT, jU, jV, jW, jX, jY, hP, hk, res66, kp66, dG0])
  refine Run_loopP (ι := { j : Nat // j ≤ s.length ∧ s.contains c = (s.drop j).contains c }) (fun j => slDh s c j.1) (fun _ => []) (fun j => s.length - j.1) ⟨0, Nat.zero_le _, rfl⟩ (sub_mk ⟨rfl, rfl, rfl, trivial⟩) rfl ?_
  rintro ⟨j, hj, hall⟩ D dP dS dw dn dr dk ddf dPan dRet hX hJ
  have hP0 := hP; have hk0 := hk; have hctr0 := hctr
  have hP : D.P = Tryz.prog := by rw [dP]; exact hP0
  have hk : D.kp = kp66 := by rw [dk]; exact hk0
  have hctr : CtrOk D dG0 := dG0_ok hP
  have dFin : ∀ b en, b = s.contains c → Fin D res66 (.c (.b b)) en := fun b en hb ρ a w' hw hn hwf hd hr => dRet _ _ (fin b en hb ρ a w' (hw.toC dS.symm dw.symm dr.symm dn.symm) (by rw [← dn]; exact hn) hwf (hd.trans ddf) (fun fn h => by rw [← dP]; exact hr fn h))
  show Run D _ _ (slDh s c j) []
  by_cases hjn : j < s.length
  · obtain ⟨x, hx⟩ : ∃ x, s[j]? = some x := ⟨_, List.getElem?_eq_getElem hjn⟩
    have hgd : s.getD j 0 = x := by rw [List.getD_eq_getElem?_getD, hx]; rfl
    have q1 : decide ((j : Int) < (s.length : Int)) = true := decide_eq_true (by omega)
    have p0 : (0 : Int) ≤ (j : Int) := by omega
    have p1 : (j : Int) < (s.length : Int) := by omega
    have p3 : IntKind.i64.wrap ((j : Int) + 1) = ((j + 1 : Nat) : Int) := by rw [IntWalk.i64_in _ (by omega)]; rfl
    have hdr : s.drop j = x :: s.drop (j + 1) := by
      rw [List.drop_eq_getElem_cons hjn]; congr 1
      exact (List.getElem?_eq_some_iff.1 hx).2
    rw [hdr, List.contains_cons] at hall
    by_cases hxc : x = c
    · have e0 : ((x.toNat : Int) == (c.toNat : Int)) = true := by rw [hxc]; simp
      (refine VT_ok hctr (rs := res66) true 300 _ _ _ ?_; simp (maxSteps := 1000000) only [VT, jf, jg, jZ, ja, jd, je, VC, qA, qB, qC, qD, qE, qF, qG, qH, qI, qJ, qK, qL, qM, qN, qO, qP, qQ, qR, qS, qT, qU, qV, qW, qX, qY, qZ, qe, qf, qg, qh, qj, qk, ql, qm, qn, qo, qp, qq, q0t, qu, qv, ev, qw, qy, qz, zA, zB, zC, zD, zE, zF, zG, zH, zI, zJ, TE.sv, zK, zL, zM, ↓reduceIte, reduceCtorEq, Value.oneCell', Nat.reduceEqDiff, Nat.reduceAdd, Nat.reduceLT, Nat.reduceBEq, Nat.reduceSub, Nat.reduceLeDiff, zP, zQ, zR, zS, zT, zU, zV, zW, zX, zY, zZ, za, zb, zc, zd, ze, zf, zg, zh, zi, zj, zk, zl, zm, zn, zo, zp, zq, zr, zt, zu, zw, zx, zy, zz, cE, jA, jB, hap, killE, deadOf, rwE, cD, cO, jC, jD, jE, jF, jG, jH, jI, jJ, jK, jL, jM, jN, jO, jP, jQ, jR, jS, jT, jU, jV, jW, jX, jY, hP, hk, res66, kp66, dG0, slDh, q1, p0, p1, p3, Int.toNat_natCast, hgd, e0])
      exact dFin true _ (by rw [hall, hxc]; simp)
    · have e0 : ((x.toNat : Int) == (c.toNat : Int)) = false := by
        rw [beq_eq_false_iff_ne]; intro h; exact hxc (UInt8.toNat_inj.1 (by omega))
      (refine VT_ok hctr (rs := res66) true 300 _ _ _ ?_; simp (maxSteps := 1000000) only [VT, jf, jg, jZ, ja, jd, je, VC, qA, qB, qC, qD, qE, qF, qG, qH, qI, qJ, qK, qL, qM, qN, qO, qP, qQ, qR, qS, qT, qU, qV, qW, qX, qY, qZ, qe, qf, qg, qh, qj, qk, ql, qm, qn, qo, qp, qq, q0t, qu, qv, ev, qw, qy, qz, zA, zB, zC, zD, zE, zF, zG, zH, zI, zJ, TE.sv, zK, zL, zM, ↓reduceIte, reduceCtorEq, Value.oneCell', Nat.reduceEqDiff, Nat.reduceAdd, Nat.reduceLT, Nat.reduceBEq, Nat.reduceSub, Nat.reduceLeDiff, zP, zQ, zR, zS, zT, zU, zV, zW, zX, zY, zZ, za, zb, zc, zd, ze, zf, zg, zh, zi, zj, zk, zl, zm, zn, zo, zp, zq, zr, zt, zu, zw, zx, zy, zz, cE, jA, jB, hap, killE, deadOf, rwE, cD, cO, jC, jD, jE, jF, jG, jH, jI, jJ, jK, jL, jM, jN, jO, jP, jQ, jR, jS, jT, jU, jV, jW, jX, jY, hP, hk, res66, kp66, dG0, slDh, q1, p0, p1, p3, Int.toNat_natCast, hgd, e0])
      refine hJ ⟨j + 1, by omega, ?_⟩ _ (by show s.length - (j + 1) < s.length - j; omega) (sub_mk ⟨rfl, rfl, rfl, trivial⟩)
      have : (c == x) = false := by simpa using fun h => hxc (Eq.symm h)
      rw [this, Bool.false_or] at hall; exact hall
  · have q1 : decide ((j : Int) < (s.length : Int)) = false := decide_eq_false (by omega)
    (refine VT_ok hctr (rs := res66) true 300 _ _ _ ?_; simp (maxSteps := 1000000) only [VT, jf, jg, jZ, ja, jd, je, VC, qA, qB, qC, qD, qE, qF, qG, qH, qI, qJ, qK, qL, qM, qN, qO, qP, qQ, qR, qS, qT, qU, qV, qW, qX, qY, qZ, qe, qf, qg, qh, qj, qk, ql, qm, qn, qo, qp, qq, q0t, qu, qv, ev, qw, qy, qz, zA, zB, zC, zD, zE, zF, zG, zH, zI, zJ, TE.sv, zK, zL, zM, ↓reduceIte, reduceCtorEq, Value.oneCell', Nat.reduceEqDiff, Nat.reduceAdd, Nat.reduceLT, Nat.reduceBEq, Nat.reduceSub, Nat.reduceLeDiff, zP, zQ, zR, zS, zT, zU, zV, zW, zX, zY, zZ, za, zb, zc, zd, ze, zf, zg, zh, zi, zj, zk, zl, zm, zn, zo, zp, zq, zr, zt, zu, zw, zx, zy, zz, cE, jA, jB, hap, killE, deadOf, rwE, cD, cO, jC, jD, jE, jF, jG, jH, jI, jJ, jK, jL, jM, jN, jO, jP, jQ, jR, jS, jT, jU, jV, jW, jX, jY, hP, hk, res66, kp66, dG0, slDh, q1])
    refine hX rfl rfl ?_
    have hP := hP0; have hk := hk0; have hctr := hctr0
    (refine VT_ok hctr (rs := res66) true 300 _ _ _ ?_; simp (maxSteps := 1000000) only [VT, jf, jg, jZ, ja, jd, je, VC, qA, qB, qC, qD, qE, qF, qG, qH, qI, qJ, qK, qL, qM, qN, qO, qP, qQ, qR, qS, qT, qU, qV, qW, qX, qY, qZ, qe, qf, qg, qh, qj, qk, ql, qm, qn, qo, qp, qq, q0t, qu, qv, ev, qw, qy, qz, zA, zB, zC, zD, zE, zF, zG, zH, zI, zJ, TE.sv, zK, zL, zM, ↓reduceIte, reduceCtorEq, Value.oneCell', Nat.reduceEqDiff, Nat.reduceAdd, Nat.reduceLT, Nat.reduceBEq, Nat.reduceSub, Nat.reduceLeDiff, zP, zQ, zR, zS, zT, zU, zV, zW, zX, zY, zZ, za, zb, zc, zd, ze, zf, zg, zh, zi, zj, zk, zl, zm, zn, zo, zp, zq, zr, zt, zu, zw, zx, zy, zz, cE, jA, jB, hap, killE, deadOf, rwE, cD, cO, jC, jD, jE, jF, jG, jH, jI, jJ, jK, jL, jM, jN, jO, jP, jQ, jR, jS, jT, jU, jV, jW, jX, jY, hP, hk, res66, kp66, dG0, slDh, q1])
    rw [List.drop_of_length_le (by omega)] at hall
    exact fin false _ (by rw [hall]; rfl)
def opD (name : List UInt8) : Int := if name = m_mg then 1 else if name = m_ms then 2 else if name = m_md then 5 else if name = m_ma then 3 else 7
theorem dallowed_w (name : List UInt8) (w : World) : Calls Tryz.prog 65 #[.string ⟨name.toArray⟩] w fun e w' => e = .returned (.string ⟨(kindM name).2.toArray⟩) ∧ Below w.heap.size w w' := by
  refine calls_of_Run Tryz.func65 rfl kp65 (S := Non) (ρ := fun _ => reOf 0) (en := []) [.c (.s name)] Tryz.ntmps65 (At.nil _ _ _) (by simp [SV.wf, SC.wf]) (by simp) ?_
  intro C hC hP hk
  have hctr := dG0_ok hP
  have fin : ∀ l en, (kindM name).2 = l → Fin C res65 (.c (.s l)) en := fun l en hl => by subst hl; exact Fin_ro (v := .c (.s ((kindM name).2))) hC hres65 rfl trivial
  by_cases h0 : name = m_me
  · have c0 : (name == [109, 101]) = true := by rw [h0]; rfl
    (refine VT_ok hctr (rs := res65) true 200 _ _ _ ?_; simp (maxSteps := 1000000) only [VT, jf, jg, jZ, ja, jd, je, VC, qA, qB, qC, qD, qE, qF, qG, qH, qI, qJ, qK, qL, qM, qN, qO, qP, qQ, qR, qS, qT, qU, qV, qW, qX, qY, qZ, qe, qf, qg, qh, qj, qk, ql, qm, qn, qo, qp, qq, q0t, qu, qv, ev, qw, qy, qz, zA, zB, zC, zD, zE, zF, zG, zH, zI, zJ, TE.sv, zK, zL, zM, ↓reduceIte, reduceCtorEq, Value.oneCell', Nat.reduceEqDiff, Nat.reduceAdd, Nat.reduceLT, Nat.reduceBEq, Nat.reduceSub, Nat.reduceLeDiff, zP, zQ, zR, zS, zT, zU, zV, zW, zX, zY, zZ, za, zb, zc, zd, ze, zf, zg, zh, zi, zj, zk, zl, zm, zn, zo, zp, zq, zr, zt, zu, zw, zx, zy, zz, cE, jA, jB, hap, killE, deadOf, rwE, cD, cO, jC, jD, jE, jF, jG, jH, jI, jJ, jK, jL, jM, jN, jO, jP, jQ, jR, jS, jT, jU, jV, jW, jX, jY, hP, hk, res65, kp65, dG0, c0])
    exact fin _ _ (by rw [h0]; rfl)
  have c0 : (name == [109, 101]) = false := Bool.eq_false_iff.2 fun e => h0 (eq_of_beq e)
  by_cases h1 : name = m_mg
  · have c1 : (name == [109, 103]) = true := by rw [h1]; rfl
    (refine VT_ok hctr (rs := res65) true 200 _ _ _ ?_; simp (maxSteps := 1000000) only [VT, jf, jg, jZ, ja, jd, je, VC, qA, qB, qC, qD, qE, qF, qG, qH, qI, qJ, qK, qL, qM, qN, qO, qP, qQ, qR, qS, qT, qU, qV, qW, qX, qY, qZ, qe, qf, qg, qh, qj, qk, ql, qm, qn, qo, qp, qq, q0t, qu, qv, ev, qw, qy, qz, zA, zB, zC, zD, zE, zF, zG, zH, zI, zJ, TE.sv, zK, zL, zM, ↓reduceIte, reduceCtorEq, Value.oneCell', Nat.reduceEqDiff, Nat.reduceAdd, Nat.reduceLT, Nat.reduceBEq, Nat.reduceSub, Nat.reduceLeDiff, zP, zQ, zR, zS, zT, zU, zV, zW, zX, zY, zZ, za, zb, zc, zd, ze, zf, zg, zh, zi, zj, zk, zl, zm, zn, zo, zp, zq, zr, zt, zu, zw, zx, zy, zz, cE, jA, jB, hap, killE, deadOf, rwE, cD, cO, jC, jD, jE, jF, jG, jH, jI, jJ, jK, jL, jM, jN, jO, jP, jQ, jR, jS, jT, jU, jV, jW, jX, jY, hP, hk, res65, kp65, dG0, c0, c1])
    exact fin _ _ (by rw [h1]; rfl)
  have c1 : (name == [109, 103]) = false := Bool.eq_false_iff.2 fun e => h1 (eq_of_beq e)
  by_cases h2 : name = m_ms
  · have c2 : (name == [109, 115]) = true := by rw [h2]; rfl
    (refine VT_ok hctr (rs := res65) true 200 _ _ _ ?_; simp (maxSteps := 1000000) only [VT, jf, jg, jZ, ja, jd, je, VC, qA, qB, qC, qD, qE, qF, qG, qH, qI, qJ, qK, qL, qM, qN, qO, qP, qQ, qR, qS, qT, qU, qV, qW, qX, qY, qZ, qe, qf, qg, qh, qj, qk, ql, qm, qn, qo, qp, qq, q0t, qu, qv, ev, qw, qy, qz, zA, zB, zC, zD, zE, zF, zG, zH, zI, zJ, TE.sv, zK, zL, zM, ↓reduceIte, reduceCtorEq, Value.oneCell', Nat.reduceEqDiff, Nat.reduceAdd, Nat.reduceLT, Nat.reduceBEq, Nat.reduceSub, Nat.reduceLeDiff, zP, zQ, zR, zS, zT, zU, zV, zW, zX, zY, zZ, za, zb, zc, zd, ze, zf, zg, zh, zi, zj, zk, zl, zm, zn, zo, zp, zq, zr, zt, zu, zw, zx, zy, zz, cE, jA, jB, hap, killE, deadOf, rwE, cD, cO, jC, jD, jE, jF, jG, jH, jI, jJ, jK, jL, jM, jN, jO, jP, jQ, jR, jS, jT, jU, jV, jW, jX, jY, hP, hk, res65, kp65, dG0, c0, c1, c2])
    exact fin _ _ (by rw [h2]; rfl)
  have c2 : (name == [109, 115]) = false := Bool.eq_false_iff.2 fun e => h2 (eq_of_beq e)
  by_cases h3 : name = m_md
  · have c3 : (name == [109, 100]) = true := by rw [h3]; rfl
    (refine VT_ok hctr (rs := res65) true 200 _ _ _ ?_; simp (maxSteps := 1000000) only [VT, jf, jg, jZ, ja, jd, je, VC, qA, qB, qC, qD, qE, qF, qG, qH, qI, qJ, qK, qL, qM, qN, qO, qP, qQ, qR, qS, qT, qU, qV, qW, qX, qY, qZ, qe, qf, qg, qh, qj, qk, ql, qm, qn, qo, qp, qq, q0t, qu, qv, ev, qw, qy, qz, zA, zB, zC, zD, zE, zF, zG, zH, zI, zJ, TE.sv, zK, zL, zM, ↓reduceIte, reduceCtorEq, Value.oneCell', Nat.reduceEqDiff, Nat.reduceAdd, Nat.reduceLT, Nat.reduceBEq, Nat.reduceSub, Nat.reduceLeDiff, zP, zQ, zR, zS, zT, zU, zV, zW, zX, zY, zZ, za, zb, zc, zd, ze, zf, zg, zh, zi, zj, zk, zl, zm, zn, zo, zp, zq, zr, zt, zu, zw, zx, zy, zz, cE, jA, jB, hap, killE, deadOf, rwE, cD, cO, jC, jD, jE, jF, jG, jH, jI, jJ, jK, jL, jM, jN, jO, jP, jQ, jR, jS, jT, jU, jV, jW, jX, jY, hP, hk, res65, kp65, dG0, c0, c1, c2, c3])
    exact fin _ _ (by rw [h3]; rfl)
  have c3 : (name == [109, 100]) = false := Bool.eq_false_iff.2 fun e => h3 (eq_of_beq e)
  by_cases h4 : name = m_ma
  · have c4 : (name == [109, 97]) = true := by rw [h4]; rfl
    (refine VT_ok hctr (rs := res65) true 200 _ _ _ ?_; simp (maxSteps := 1000000) only [VT, jf, jg, jZ, ja, jd, je, VC, qA, qB, qC, qD, qE, qF, qG, qH, qI, qJ, qK, qL, qM, qN, qO, qP, qQ, qR, qS, qT, qU, qV, qW, qX, qY, qZ, qe, qf, qg, qh, qj, qk, ql, qm, qn, qo, qp, qq, q0t, qu, qv, ev, qw, qy, qz, zA, zB, zC, zD, zE, zF, zG, zH, zI, zJ, TE.sv, zK, zL, zM, ↓reduceIte, reduceCtorEq, Value.oneCell', Nat.reduceEqDiff, Nat.reduceAdd, Nat.reduceLT, Nat.reduceBEq, Nat.reduceSub, Nat.reduceLeDiff, zP, zQ, zR, zS, zT, zU, zV, zW, zX, zY, zZ, za, zb, zc, zd, ze, zf, zg, zh, zi, zj, zk, zl, zm, zn, zo, zp, zq, zr, zt, zu, zw, zx, zy, zz, cE, jA, jB, hap, killE, deadOf, rwE, cD, cO, jC, jD, jE, jF, jG, jH, jI, jJ, jK, jL, jM, jN, jO, jP, jQ, jR, jS, jT, jU, jV, jW, jX, jY, hP, hk, res65, kp65, dG0, c0, c1, c2, c3, c4])
    exact fin _ _ (by rw [h4]; rfl)
  have c4 : (name == [109, 97]) = false := Bool.eq_false_iff.2 fun e => h4 (eq_of_beq e)
  (refine VT_ok hctr (rs := res65) true 200 _ _ _ ?_; simp (maxSteps := 1000000) only [VT, jf, jg, jZ, ja, jd, je, VC, qA, qB, qC, qD, qE, qF, qG, qH, qI, qJ, qK, qL, qM, qN, qO, qP, qQ, qR, qS, qT, qU, qV, qW, qX, qY, qZ, qe, qf, qg, qh, qj, qk, ql, qm, qn, qo, qp, qq, q0t, qu, qv, ev, qw, qy, qz, zA, zB, zC, zD, zE, zF, zG, zH, zI, zJ, TE.sv, zK, zL, zM, ↓reduceIte, reduceCtorEq, Value.oneCell', Nat.reduceEqDiff, Nat.reduceAdd, Nat.reduceLT, Nat.reduceBEq, Nat.reduceSub, Nat.reduceLeDiff, zP, zQ, zR, zS, zT, zU, zV, zW, zX, zY, zZ, za, zb, zc, zd, ze, zf, zg, zh, zi, zj, zk, zl, zm, zn, zo, zp, zq, zr, zt, zu, zw, zx, zy, zz, cE, jA, jB, hap, killE, deadOf, rwE, cD, cO, jC, jD, jE, jF, jG, jH, jI, jJ, jK, jL, jM, jN, jO, jP, jQ, jR, jS, jT, jU, jV, jW, jX, jY, hP, hk, res65, kp65, dG0, c0, c1, c2, c3, c4])
  exact fin _ _ (by simp [opD, kindM, h0, h1, h2, h3, h4])
theorem dop_w (name : List UInt8) (w : World) : Calls Tryz.prog 49 #[.string ⟨name.toArray⟩] w fun e w' => e = .returned (.int .i64 (opD name)) ∧ Below w.heap.size w w' := by
  refine calls_of_Run Tryz.func49 rfl kp49 (S := Non) (ρ := fun _ => reOf 0) (en := []) [.c (.s name)] Tryz.ntmps49 (At.nil _ _ _) (by simp [SV.wf, SC.wf]) (by simp) ?_
  intro C hC hP hk
  have hctr := dG0_ok hP
  have fin : ∀ l en, opD name = l → Fin C res49 (.c (.i .i64 l)) en := fun l en hl => by subst hl; exact Fin_ro (v := .c (.i .i64 (opD name))) hC hres49 rfl trivial
  by_cases h0 : name = m_mg
  · have c0 : (name == [109, 103]) = true := by rw [h0]; rfl
    (refine VT_ok hctr (rs := res49) true 200 _ _ _ ?_; simp (maxSteps := 1000000) only [VT, jf, jg, jZ, ja, jd, je, VC, qA, qB, qC, qD, qE, qF, qG, qH, qI, qJ, qK, qL, qM, qN, qO, qP, qQ, qR, qS, qT, qU, qV, qW, qX, qY, qZ, qe, qf, qg, qh, qj, qk, ql, qm, qn, qo, qp, qq, q0t, qu, qv, ev, qw, qy, qz, zA, zB, zC, zD, zE, zF, zG, zH, zI, zJ, TE.sv, zK, zL, zM, ↓reduceIte, reduceCtorEq, Value.oneCell', Nat.reduceEqDiff, Nat.reduceAdd, Nat.reduceLT, Nat.reduceBEq, Nat.reduceSub, Nat.reduceLeDiff, zP, zQ, zR, zS, zT, zU, zV, zW, zX, zY, zZ, za, zb, zc, zd, ze, zf, zg, zh, zi, zj, zk, zl, zm, zn, zo, zp, zq, zr, zt, zu, zw, zx, zy, zz, cE, jA, jB, hap, killE, deadOf, rwE, cD, cO, jC, jD, jE, jF, jG, jH, jI, jJ, jK, jL, jM, jN, jO, jP, jQ, jR, jS, jT, jU, jV, jW, jX, jY, hP, hk, res49, kp49, dG0, c0])
    exact fin _ _ (by rw [h0]; rfl)
  have c0 : (name == [109, 103]) = false := Bool.eq_false_iff.2 fun e => h0 (eq_of_beq e)
  by_cases h1 : name = m_ms
  · have c1 : (name == [109, 115]) = true := by rw [h1]; rfl
    (refine VT_ok hctr (rs := res49) true 200 _ _ _ ?_; simp (maxSteps := 1000000) only [VT, jf, jg, jZ, ja, jd, je, VC, qA, qB, qC, qD, qE, qF, qG, qH, qI, qJ, qK, qL, qM, qN, qO, qP, qQ, qR, qS, qT, qU, qV, qW, qX, qY, qZ, qe, qf, qg, qh, qj, qk, ql, qm, qn, qo, qp, qq, q0t, qu, qv, ev, qw, qy, qz, zA, zB, zC, zD, zE, zF, zG, zH, zI, zJ, TE.sv, zK, zL, zM, ↓reduceIte, reduceCtorEq, Value.oneCell', Nat.reduceEqDiff, Nat.reduceAdd, Nat.reduceLT, Nat.reduceBEq, Nat.reduceSub, Nat.reduceLeDiff, zP, zQ, zR, zS, zT, zU, zV, zW, zX, zY, zZ, za, zb, zc, zd, ze, zf, zg, zh, zi, zj, zk, zl, zm, zn, zo, zp, zq, zr, zt, zu, zw, zx, zy, zz, cE, jA, jB, hap, killE, deadOf, rwE, cD, cO, jC, jD, jE, jF, jG, jH, jI, jJ, jK, jL, jM, jN, jO, jP, jQ, jR, jS, jT, jU, jV, jW, jX, jY, hP, hk, res49, kp49, dG0, c0, c1])
    exact fin _ _ (by rw [h1]; rfl)
  have c1 : (name == [109, 115]) = false := Bool.eq_false_iff.2 fun e => h1 (eq_of_beq e)
  by_cases h2 : name = m_md
  · have c2 : (name == [109, 100]) = true := by rw [h2]; rfl
    (refine VT_ok hctr (rs := res49) true 200 _ _ _ ?_; simp (maxSteps := 1000000) only [VT, jf, jg, jZ, ja, jd, je, VC, qA, qB, qC, qD, qE, qF, qG, qH, qI, qJ, qK, qL, qM, qN, qO, qP, qQ, qR, qS, qT, qU, qV, qW, qX, qY, qZ, qe, qf, qg, qh, qj, qk, ql, qm, qn, qo, qp, qq, q0t, qu, qv, ev, qw, qy, qz, zA, zB, zC, zD, zE, zF, zG, zH, zI, zJ, TE.sv, zK, zL, zM, ↓reduceIte, reduceCtorEq, Value.oneCell', Nat.reduceEqDiff, Nat.reduceAdd, Nat.reduceLT, Nat.reduceBEq, Nat.reduceSub, Nat.reduceLeDiff, zP, zQ, zR, zS, zT, zU, zV, zW, zX, zY, zZ, za, zb, zc, zd, ze, zf, zg, zh, zi, zj, zk, zl, zm, zn, zo, zp, zq, zr, zt, zu, zw, zx, zy, zz, cE, jA, jB, hap, killE, deadOf, rwE, cD, cO, jC, jD, jE, jF, jG, jH, jI, jJ, jK, jL, jM, jN, jO, jP, jQ, jR, jS, jT, jU, jV, jW, jX, jY, hP, hk, res49, kp49, dG0, c0, c1, c2])
    exact fin _ _ (by rw [h2]; rfl)
  have c2 : (name == [109, 100]) = false := Bool.eq_false_iff.2 fun e => h2 (eq_of_beq e)
  by_cases h3 : name = m_ma
  · have c3 : (name == [109, 97]) = true := by rw [h3]; rfl
    (refine VT_ok hctr (rs := res49) true 200 _ _ _ ?_; simp (maxSteps := 1000000) only [VT, jf, jg, jZ, ja, jd, je, VC, qA, qB, qC, qD, qE, qF, qG, qH, qI, qJ, qK, qL, qM, qN, qO, qP, qQ, qR, qS, qT, qU, qV, qW, qX, qY, qZ, qe, qf, qg, qh, qj, qk, ql, qm, qn, qo, qp, qq, q0t, qu, qv, ev, qw, qy, qz, zA, zB, zC, zD, zE, zF, zG, zH, zI, zJ, TE.sv, zK, zL, zM, ↓reduceIte, reduceCtorEq, Value.oneCell', Nat.reduceEqDiff, Nat.reduceAdd, Nat.reduceLT, Nat.reduceBEq, Nat.reduceSub, Nat.reduceLeDiff, zP, zQ, zR, zS, zT, zU, zV, zW, zX, zY, zZ, za, zb, zc, zd, ze, zf, zg, zh, zi, zj, zk, zl, zm, zn, zo, zp, zq, zr, zt, zu, zw, zx, zy, zz, cE, jA, jB, hap, killE, deadOf, rwE, cD, cO, jC, jD, jE, jF, jG, jH, jI, jJ, jK, jL, jM, jN, jO, jP, jQ, jR, jS, jT, jU, jV, jW, jX, jY, hP, hk, res49, kp49, dG0, c0, c1, c2, c3])
    exact fin _ _ (by rw [h3]; rfl)
  have c3 : (name == [109, 97]) = false := Bool.eq_false_iff.2 fun e => h3 (eq_of_beq e)
  (refine VT_ok hctr (rs := res49) true 200 _ _ _ ?_; simp (maxSteps := 1000000) only [VT, jf, jg, jZ, ja, jd, je, VC, qA, qB, qC, qD, qE, qF, qG, qH, qI, qJ, qK, qL, qM, qN, qO, qP, qQ, qR, qS, qT, qU, qV, qW, qX, qY, qZ, qe, qf, qg, qh, qj, qk, ql, qm, qn, qo, qp, qq, q0t, qu, qv, ev, qw, qy, qz, zA, zB, zC, zD, zE, zF, zG, zH, zI, zJ, TE.sv, zK, zL, zM, ↓reduceIte, reduceCtorEq, Value.oneCell', Nat.reduceEqDiff, Nat.reduceAdd, Nat.reduceLT, Nat.reduceBEq, Nat.reduceSub, Nat.reduceLeDiff, zP, zQ, zR, zS, zT, zU, zV, zW, zX, zY, zZ, za, zb, zc, zd, ze, zf, zg, zh, zi, zj, zk, zl, zm, zn, zo, zp, zq, zr, zt, zu, zw, zx, zy, zz, cE, jA, jB, hap, killE, deadOf, rwE, cD, cO, jC, jD, jE, jF, jG, jH, jI, jJ, jK, jL, jM, jN, jO, jP, jQ, jR, jS, jT, jU, jV, jW, jX, jY, hP, hk, res49, kp49, dG0, c0, c1, c2, c3])
  exact fin _ _ (by simp [opD, kindM, h0, h1, h2, h3])
def slDk (s : List UInt8) (j : Nat) : List (Nat × SV) := [(3, .c (.i .i64 (j : Int))), (0, .c (.s s))]
theorem dkey_w (s : List UInt8) (hs : s.length ≤ 9223372036854775806) (w : World) : Calls Tryz.prog 53 #[.string ⟨s.toArray⟩] w fun e w' => e = .returned (.bool (keyB s)) ∧ Below w.heap.size w w' := by
  refine calls_of_Run Tryz.func53 rfl kp53 (S := Non) (ρ := fun _ => reOf 0) (en := []) [.c (.s s)] Tryz.ntmps53 (At.nil _ _ _) (by simp [SV.wf, SC.wf]) (by simp) ?_
  intro C hC hP hk
  have hctr := dG0_ok hP
  have fin : ∀ b en, b = keyB s → Fin C res53 (.c (.b b)) en := fun b en hb => by subst hb; exact Fin_ro (v := .c (.b (keyB s))) hC hres53 rfl trivial
  have hlt8 := fun x : UInt8 => x.toNat_lt
  (refine VT_ok hctr (rs := res53) true 300 _ _ _ ?_; simp (maxSteps := 1000000) only [VT, jf, jg, jZ, ja, jd, je, VC, qA, qB, qC, qD, qE, qF, qG, qH, qI, qJ, qK, qL, qM, qN, qO, qP, qQ, qR, qS, qT, qU, qV, qW, qX, qY, qZ, qe, qf, qg, qh, qj, qk, ql, qm, qn, qo, qp, qq, q0t, qu, qv, ev, qw, qy, qz, zA, zB, zC, zD, zE, zF, zG, zH, zI, zJ, TE.sv, zK, zL, zM, ↓reduceIte, reduceCtorEq, Value.oneCell', Nat.reduceEqDiff, Nat.reduceAdd, Nat.reduceLT, Nat.reduceBEq, Nat.reduceSub, Nat.reduceLeDiff, zP, zQ, zR, zS, zT, zU, zV, zW, zX, zY, zZ, za, zb, zc, zd, ze, zf, zg, zh, zi, zj, zk, zl, zm, zn, zo, zp, zq, zr, zt, zu, zw, zx, zy, zz, cE, jA, jB, hap, killE, deadOf, rwE, cD, cO, jC, jD, jE, jF, jG, jH, jI, jJ, jK, jL, jM, jN, jO, jP, jQ, jR, jS, jT, jU, jV, jW, jX, jY, hP, hk, res53, kp53, dG0])
  refine Run_loopP (ι := { j : Nat // j ≤ s.length ∧ (s.all fun c => decide (32 < c.toNat) && decide (c.toNat ≠ 127)) = ((s.drop j).all fun c => decide (32 < c.toNat) && decide (c.toNat ≠ 127)) }) (fun j => slDk s j.1) (fun _ => []) (fun j => s.length - j.1) ⟨0, Nat.zero_le _, rfl⟩ (sub_mk ⟨rfl, rfl, trivial⟩) rfl ?_
  rintro ⟨j, hj, hall⟩ D dP dS dw dn dr dk ddf dPan dRet hX hJ
  have hP0 := hP; have hk0 := hk; have hctr0 := hctr
  have hP : D.P = Tryz.prog := by rw [dP]; exact hP0
  have hk : D.kp = kp53 := by rw [dk]; exact hk0
  have hctr : CtrOk D dG0 := dG0_ok hP
  have dFin : ∀ b en, b = keyB s → Fin D res53 (.c (.b b)) en := fun b en hb ρ a w' hw hn hwf hd hr => dRet _ _ (fin b en hb ρ a w' (hw.toC dS.symm dw.symm dr.symm dn.symm) (by rw [← dn]; exact hn) hwf (hd.trans ddf) (fun fn h => by rw [← dP]; exact hr fn h))
  show Run D _ _ (slDk s j) []
  by_cases hjn : j < s.length
  · obtain ⟨x, hx⟩ : ∃ x, s[j]? = some x := ⟨_, List.getElem?_eq_getElem hjn⟩
    have hgd : s.getD j 0 = x := by rw [List.getD_eq_getElem?_getD, hx]; rfl
    have q1 : decide ((j : Int) < (s.length : Int)) = true := decide_eq_true (by omega)
    have p0 : (0 : Int) ≤ (j : Int) := by omega
    have p1 : (j : Int) < (s.length : Int) := by omega
    have p3 : IntKind.i64.wrap ((j : Int) + 1) = ((j + 1 : Nat) : Int) := by rw [IntWalk.i64_in _ (by omega)]; rfl
    have hdr : s.drop j = x :: s.drop (j + 1) := by
      rw [List.drop_eq_getElem_cons hjn]; congr 1
      exact (List.getElem?_eq_some_iff.1 hx).2
    rw [hdr, List.all_cons] at hall
    by_cases h1 : (x.toNat : Int) < 33
    · have e0 : decide ((x.toNat : Int) < 33) = true := decide_eq_true h1
      (refine VT_ok hctr (rs := res53) true 300 _ _ _ ?_; simp (maxSteps := 1000000) only [VT, jf, jg, jZ, ja, jd, je, VC, qA, qB, qC, qD, qE, qF, qG, qH, qI, qJ, qK, qL, qM, qN, qO, qP, qQ, qR, qS, qT, qU, qV, qW, qX, qY, qZ, qe, qf, qg, qh, qj, qk, ql, qm, qn, qo, qp, qq, q0t, qu, qv, ev, qw, qy, qz, zA, zB, zC, zD, zE, zF, zG, zH, zI, zJ, TE.sv, zK, zL, zM, ↓reduceIte, reduceCtorEq, Value.oneCell', Nat.reduceEqDiff, Nat.reduceAdd, Nat.reduceLT, Nat.reduceBEq, Nat.reduceSub, Nat.reduceLeDiff, zP, zQ, zR, zS, zT, zU, zV, zW, zX, zY, zZ, za, zb, zc, zd, ze, zf, zg, zh, zi, zj, zk, zl, zm, zn, zo, zp, zq, zr, zt, zu, zw, zx, zy, zz, cE, jA, jB, hap, killE, deadOf, rwE, cD, cO, jC, jD, jE, jF, jG, jH, jI, jJ, jK, jL, jM, jN, jO, jP, jQ, jR, jS, jT, jU, jV, jW, jX, jY, hP, hk, res53, kp53, dG0, slDk, q1, p0, p1, p3, Int.toNat_natCast, hgd, e0])
      refine dFin false _ ?_
      have : decide (32 < x.toNat) = false := decide_eq_false (by omega)
      rw [this] at hall
      simp only [Bool.false_and] at hall
      unfold keyB; rw [hall]; simp
    have e0 : decide ((x.toNat : Int) < 33) = false := decide_eq_false h1
    by_cases h2 : x.toNat = 127
    · have e1 : ((x.toNat : Int) == 127) = true := by rw [beq_iff_eq]; omega
      (refine VT_ok hctr (rs := res53) true 300 _ _ _ ?_; simp (maxSteps := 1000000) only [VT, jf, jg, jZ, ja, jd, je, VC, qA, qB, qC, qD, qE, qF, qG, qH, qI, qJ, qK, qL, qM, qN, qO, qP, qQ, qR, qS, qT, qU, qV, qW, qX, qY, qZ, qe, qf, qg, qh, qj, qk, ql, qm, qn, qo, qp, qq, q0t, qu, qv, ev, qw, qy, qz, zA, zB, zC, zD, zE, zF, zG, zH, zI, zJ, TE.sv, zK, zL, zM, ↓reduceIte, reduceCtorEq, Value.oneCell', Nat.reduceEqDiff, Nat.reduceAdd, Nat.reduceLT, Nat.reduceBEq, Nat.reduceSub, Nat.reduceLeDiff, zP, zQ, zR, zS, zT, zU, zV, zW, zX, zY, zZ, za, zb, zc, zd, ze, zf, zg, zh, zi, zj, zk, zl, zm, zn, zo, zp, zq, zr, zt, zu, zw, zx, zy, zz, cE, jA, jB, hap, killE, deadOf, rwE, cD, cO, jC, jD, jE, jF, jG, jH, jI, jJ, jK, jL, jM, jN, jO, jP, jQ, jR, jS, jT, jU, jV, jW, jX, jY, hP, hk, res53, kp53, dG0, slDk, q1, p0, p1, p3, Int.toNat_natCast, hgd, e0, e1])
      refine dFin false _ ?_
      have : decide (x.toNat ≠ 127) = false := decide_eq_false (fun h => h h2)
      rw [this] at hall
      simp only [Bool.and_false, Bool.false_and] at hall
      unfold keyB; rw [hall]; simp
    have e1 : ((x.toNat : Int) == 127) = false := by rw [beq_eq_false_iff_ne]; omega
    (refine VT_ok hctr (rs := res53) true 300 _ _ _ ?_; simp (maxSteps := 1000000) only [VT, jf, jg, jZ, ja, jd, je, VC, qA, qB, qC, qD, qE, qF, qG, qH, qI, qJ, qK, qL, qM, qN, qO, qP, qQ, qR, qS, qT, qU, qV, qW, qX, qY, qZ, qe, qf, qg, qh, qj, qk, ql, qm, qn, qo, qp, qq, q0t, qu, qv, ev, qw, qy, qz, zA, zB, zC, zD, zE, zF, zG, zH, zI, zJ, TE.sv, zK, zL, zM, ↓reduceIte, reduceCtorEq, Value.oneCell', Nat.reduceEqDiff, Nat.reduceAdd, Nat.reduceLT, Nat.reduceBEq, Nat.reduceSub, Nat.reduceLeDiff, zP, zQ, zR, zS, zT, zU, zV, zW, zX, zY, zZ, za, zb, zc, zd, ze, zf, zg, zh, zi, zj, zk, zl, zm, zn, zo, zp, zq, zr, zt, zu, zw, zx, zy, zz, cE, jA, jB, hap, killE, deadOf, rwE, cD, cO, jC, jD, jE, jF, jG, jH, jI, jJ, jK, jL, jM, jN, jO, jP, jQ, jR, jS, jT, jU, jV, jW, jX, jY, hP, hk, res53, kp53, dG0, slDk, q1, p0, p1, p3, Int.toNat_natCast, hgd, e0, e1])
    refine hJ ⟨j + 1, by omega, ?_⟩ _ (by show s.length - (j + 1) < s.length - j; omega) (sub_mk ⟨rfl, rfl, trivial⟩)
    have a1 : decide (32 < x.toNat) = true := decide_eq_true (by omega)
    have a2 : decide (x.toNat ≠ 127) = true := decide_eq_true h2
    rw [a1, a2] at hall
    simpa using hall
  · have q1 : decide ((j : Int) < (s.length : Int)) = false := decide_eq_false (by omega)
    (refine VT_ok hctr (rs := res53) true 300 _ _ _ ?_; simp (maxSteps := 1000000) only [VT, jf, jg, jZ, ja, jd, je, VC, qA, qB, qC, qD, qE, qF, qG, qH, qI, qJ, qK, qL, qM, qN, qO, qP, qQ, qR, qS, qT, qU, qV, qW, qX, qY, qZ, qe, qf, qg, qh, qj, qk, ql, qm, qn, qo, qp, qq, q0t, qu, qv, ev, qw, qy, qz, zA, zB, zC, zD, zE, zF, zG, zH, zI, zJ, TE.sv, zK, zL, zM, ↓reduceIte, reduceCtorEq, Value.oneCell', Nat.reduceEqDiff, Nat.reduceAdd, Nat.reduceLT, Nat.reduceBEq, Nat.reduceSub, Nat.reduceLeDiff, zP, zQ, zR, zS, zT, zU, zV, zW, zX, zY, zZ, za, zb, zc, zd, ze, zf, zg, zh, zi, zj, zk, zl, zm, zn, zo, zp, zq, zr, zt, zu, zw, zx, zy, zz, cE, jA, jB, hap, killE, deadOf, rwE, cD, cO, jC, jD, jE, jF, jG, jH, jI, jJ, jK, jL, jM, jN, jO, jP, jQ, jR, jS, jT, jU, jV, jW, jX, jY, hP, hk, res53, kp53, dG0, slDk, q1])
    refine hX rfl rfl ?_
    have hP := hP0; have hk := hk0; have hctr := hctr0
    rw [List.drop_of_length_le (by omega)] at hall
    have hkb : keyB s = (!s.isEmpty && decide (s.length ≤ 250)) := by unfold keyB; rw [hall]; simp
    by_cases h1 : (1 : Int) ≤ (s.length : Int)
    · have e0 : decide ((1 : Int) ≤ (s.length : Int)) = true := decide_eq_true h1
      have hne : s.isEmpty = false := by cases s with
        | nil => simp at h1
        | cons c t => rfl
      (refine VT_ok hctr (rs := res53) true 300 _ _ _ ?_; simp (maxSteps := 1000000) only [VT, jf, jg, jZ, ja, jd, je, VC, qA, qB, qC, qD, qE, qF, qG, qH, qI, qJ, qK, qL, qM, qN, qO, qP, qQ, qR, qS, qT, qU, qV, qW, qX, qY, qZ, qe, qf, qg, qh, qj, qk, ql, qm, qn, qo, qp, qq, q0t, qu, qv, ev, qw, qy, qz, zA, zB, zC, zD, zE, zF, zG, zH, zI, zJ, TE.sv, zK, zL, zM, ↓reduceIte, reduceCtorEq, Value.oneCell', Nat.reduceEqDiff, Nat.reduceAdd, Nat.reduceLT, Nat.reduceBEq, Nat.reduceSub, Nat.reduceLeDiff, zP, zQ, zR, zS, zT, zU, zV, zW, zX, zY, zZ, za, zb, zc, zd, ze, zf, zg, zh, zi, zj, zk, zl, zm, zn, zo, zp, zq, zr, zt, zu, zw, zx, zy, zz, cE, jA, jB, hap, killE, deadOf, rwE, cD, cO, jC, jD, jE, jF, jG, jH, jI, jJ, jK, jL, jM, jN, jO, jP, jQ, jR, jS, jT, jU, jV, jW, jX, jY, hP, hk, res53, kp53, dG0, slDk, q1, e0])
      refine fin _ _ ?_
      rw [hkb, hne]
      simp
      omega
    · have e0 : decide ((1 : Int) ≤ (s.length : Int)) = false := decide_eq_false h1
      have hne : s = [] := List.eq_nil_of_length_eq_zero (by omega)
      (refine VT_ok hctr (rs := res53) true 300 _ _ _ ?_; simp (maxSteps := 1000000) only [VT, jf, jg, jZ, ja, jd, je, VC, qA, qB, qC, qD, qE, qF, qG, qH, qI, qJ, qK, qL, qM, qN, qO, qP, qQ, qR, qS, qT, qU, qV, qW, qX, qY, qZ, qe, qf, qg, qh, qj, qk, ql, qm, qn, qo, qp, qq, q0t, qu, qv, ev, qw, qy, qz, zA, zB, zC, zD, zE, zF, zG, zH, zI, zJ, TE.sv, zK, zL, zM, ↓reduceIte, reduceCtorEq, Value.oneCell', Nat.reduceEqDiff, Nat.reduceAdd, Nat.reduceLT, Nat.reduceBEq, Nat.reduceSub, Nat.reduceLeDiff, zP, zQ, zR, zS, zT, zU, zV, zW, zX, zY, zZ, za, zb, zc, zd, ze, zf, zg, zh, zi, zj, zk, zl, zm, zn, zo, zp, zq, zr, zt, zu, zw, zx, zy, zz, cE, jA, jB, hap, killE, deadOf, rwE, cD, cO, jC, jD, jE, jF, jG, jH, jI, jJ, jK, jL, jM, jN, jO, jP, jQ, jR, jS, jT, jU, jV, jW, jX, jY, hP, hk, res53, kp53, dG0, slDk, q1, e0])
      exact fin _ _ (by rw [hkb, hne]; rfl)
end Go.Proofs.YtlaagebdbcmckaaGreatDoor
