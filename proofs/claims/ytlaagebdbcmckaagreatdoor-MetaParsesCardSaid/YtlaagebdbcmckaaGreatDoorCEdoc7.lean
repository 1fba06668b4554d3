/- The document's Decode (ambryref03), walked. Printed by gen_edoc7.py. -/
import Derived.Test.YtlaagebdbcmckaaGreatDoorCEdoc6
namespace Go.Proofs.YtlaagebdbcmckaaGreatDoor
set_option linter.unusedSimpArgs false
set_option linter.unusedVariables false
set_option linter.unusedSimpArgs false
set_option linter.unusedVariables false
set_option maxHeartbeats 8000000
open Go.RowKit
set_option maxRecDepth 100000
def rowNumD : List SV → Option (Prop × SV)
  | [.c (.i .u8 n)] => some (0 ≤ n ∧ n < 256, .t [.c (.i .u32 (numD (UInt8.ofNat n.toNat)).1), .c (.b (numD (UInt8.ofNat n.toNat)).2)])
  | _ => none
def rowEncR : List SV → Option (Prop × SV)
  | [.c (.s l)] => some (l.length ≤ 1000000000, .c (.s (encR l)))
  | _ => none
def dM0 : Ctr := fun f _ xs => match f with
  | 68 => rowNumD xs
  | 69 => rowEncR xs
  | _ => none
theorem dM0_ok {C : Cx} (hP : C.P = Tryz.prog) : CtrOk C dM0 := by
  intro f en xs p v h hp ρ w hup hHp hHo hinj hwf
  unfold dM0 at h
  split at h
  · rw [hP]
    refine ⟨fun args w => Tryz.call68 args w, ?_⟩
    unfold rowNumD at h
    split at h <;> simp only [Option.some.injEq, Prod.mk.injEq, reduceCtorEq] at h
    rename_i n
    obtain ⟨rfl, rfl⟩ := h
    have hn : n = ((UInt8.ofNat n.toNat).toNat : Int) := by
      rw [UInt8.toNat_ofNat', Nat.mod_eq_of_lt (by omega)]; omega
    have := dnumber_w (UInt8.ofNat n.toNat) w
    rw [← hn] at this
    exact ⟨by simp [SV.wf, TE.wf, SC.wf], this⟩
  · rw [hP]
    refine ⟨fun args w => Tryz.call69 args w, ?_⟩
    unfold rowEncR at h
    split at h <;> simp only [Option.some.injEq, Prod.mk.injEq, reduceCtorEq] at h
    obtain ⟨rfl, rfl⟩ := h
    exact ⟨trivial, dencode_w _ hp w⟩
  · cases h
def slDd (s : List UInt8) (i n : Nat) : List (Nat × SV) := [(5, .c (.i .i64 (i : Int))), (4, .c (.rw 0 n)), (0, .c (.s s))]
def slDd2 (s : List UInt8) (i ol k n p : Nat) : List (Nat × SV) := [(8, .c (.i .i64 (k : Int))), (7, .c (.i .i64 (p : Int))), (6, .c (.i .u32 (n : Int))), (5, .c (.i .i64 (i : Int))), (4, .c (.rw 0 ol)), (0, .c (.s s))]
theorem dec3_app {D : Cx} {nt : Nat} {sl : List (Nat × SV)} {k : List KI} {dst : Option Nat} {ty : TypeId} {pos : String} {af : Array Edge} {all r : List Oper} {x y : Operand} {l f3 lit : List UInt8} {m cp : Nat} (hP : D.P = Tryz.prog) (hn0 : D.n0 = 0) (hl : l.length ≤ 10000000000) (hm : f3.length = m) (hm3 : m ≤ 3) (ht : zB 0 m (bytesC lit) = some (bytesC f3)) (hm0 : 0 < m)
    (hx : ev sl x = some (.c (.rw 0 l.length))) (hy : ev sl y = some (.c (.sl 1 0 m cp))) (hd : ∀ d, dst = some d → d < nt)
    (hK : ∀ E, Run D (.ops all r :: k) nt (jN dst (.c (.rw 2 (l.length + m))) sl) [E, ⟨(5, 0, whole), bytesC lit, true⟩, rwB (l ++ f3)]) :
    Run D (.ops all (⟨dst, .call ⟨.builtin .append, #[x, y], #[73, 73]⟩, ty, pos, af, none⟩ :: r) :: k) nt sl [rwB l, ⟨(5, 0, whole), bytesC lit, true⟩] := by
  obtain ⟨i0, hi', hz0, hz1, hz2⟩ := info_parts infoU8c
  have hones : ∀ l : List UInt8, qu (bytesC l) = true := fun l => by
    induction l with
    | nil => rfl
    | cons x l ih => simp only [bytesC, List.map_cons, qu, q0t, cond_true]; exact ih
  refine append_op (X := .rw 0 l.length) (Y := .sl 1 0 m cp) (o := some 0) (n := l.length) (m := m) (z := 1) (bts := 1) (cells := bytesC l) (news := bytesC f3) (e := 5) (by rw [hP]; exact Tryz.underlying73) (by rw [hP]; exact hi') hz0 hz1 hz2 rfl Nat.zero_lt_one u8d (.some rfl) hx hy (src_sl (c := 1) (o := 0) (L := m) rfl ht) (by rw [bytesC_len, hm, Nat.mul_one]) (hones _) (fun pr => bytesC_wf _ _) (by omega) (by omega) (by rw [hn0]; exact Nat.zero_le _) rfl hd ?_
  have hr : rwE 5 1 (l.length + m) (bytesC l ++ bytesC f3) = rwB (l ++ f3) := by
    rw [bytesC_app]; simp [rwB, hm]
  rw [hr]
  exact hK _
def refV (s : List UInt8) : List UInt8 × Bool := match refDec s with
  | some t => (t, true)
  | none => ([], false)
theorem ddecode_w (s : List UInt8) (hs : s.length ≤ 100000000) (w : World) : Calls Tryz.prog 52 #[.string ⟨s.toArray⟩] w fun e w' => e = .returned (.tuple #[.string ⟨(refV s).1.toArray⟩, .bool (refV s).2]) ∧ Below w.heap.size w w' := by
  refine calls_of_Run Tryz.func52 rfl kp52 (S := Non) (ρ := fun _ => reOf 0) (en := []) [.c (.s s)] Tryz.ntmps52 (At.nil _ _ _) (by simp [SV.wf, SC.wf]) (by simp) ?_
  intro C hC hP hk
  have hctr := dM0_ok hP
  have hn0 : C.n0 = 0 := by rw [hC]; rfl
  have fin : ∀ l b en, refV s = (l, b) → Fin C res52 (.t [.c (.s l), .c (.b b)]) en := fun l b en h => Fin_cx (v := .t [.c (.s l), .c (.b b)]) hC hres52 fun ρ w' hw _ _ => ⟨by rw [h]; rfl, by have := hw.up; rw [hC] at this; exact this.to_below⟩
  by_cases h4 : s.length % 4 = 0
  rotate_left
  · have c0 : ((s.length : Int).tmod 4 != 0) = true := by
      rw [Int.tmod_eq_emod_of_nonneg (by omega), bne_iff_ne]; omega
    (refine VT_ok hctr (rs := res52) true 300 _ _ _ ?_; simp (maxSteps := 1000000) only [VT, jf, jg, jZ, ja, jd, je, VC, qA, qB, qC, qD, qE, qF, qG, qH, qI, qJ, qK, qL, qM, qN, qO, qP, qQ, qR, qS, qT, qU, qV, qW, qX, qY, qZ, qe, qf, qg, qh, qj, qk, ql, qm, qn, qo, qp, qq, q0t, qu, qv, ev, qw, qy, qz, zA, zB, zC, zD, zE, zF, zG, zH, zI, zJ, TE.sv, zK, zL, zM, ↓reduceIte, reduceCtorEq, Value.oneCell', Nat.reduceEqDiff, Nat.reduceAdd, Nat.reduceLT, Nat.reduceBEq, Nat.reduceSub, Nat.reduceLeDiff, zP, zQ, zR, zS, zT, zU, zV, zW, zX, zY, zZ, za, zb, zc, zd, ze, zf, zg, zh, zi, zj, zk, zl, zm, zn, zo, zp, zq, zr, zt, zu, zw, zx, zy, zz, cE, jA, jB, hap, killE, deadOf, rwE, cD, cO, jC, jD, jE, jF, jG, jH, jI, jJ, jK, jL, jM, jN, jO, jP, jQ, jR, jS, jT, jU, jV, jW, jX, jY, hP, hk, res52, kp52, dM0, rowNumD, rowEncR, slDd, slDd2, rwB, rwE, Int.toNat_natCast, UInt8.ofNat_toNat, Nat.reduceMul, Nat.reduceLeDiff, if_true, Int.reduceToNat, Nat.reduceAdd, Nat.mul_one, c0])
    exact ⟨by decide, fin _ _ _ (by unfold refV refDec; rw [if_pos h4])⟩
  have c0 : ((s.length : Int).tmod 4 != 0) = false := by
    rw [Int.tmod_eq_emod_of_nonneg (by omega), bne_eq_false_iff_eq]; omega
  (refine VT_ok hctr (rs := res52) true 300 _ _ _ ?_; simp (maxSteps := 1000000) only [VT, jf, jg, jZ, ja, jd, je, VC, qA, qB, qC, qD, qE, qF, qG, qH, qI, qJ, qK, qL, qM, qN, qO, qP, qQ, qR, qS, qT, qU, qV, qW, qX, qY, qZ, qe, qf, qg, qh, qj, qk, ql, qm, qn, qo, qp, qq, q0t, qu, qv, ev, qw, qy, qz, zA, zB, zC, zD, zE, zF, zG, zH, zI, zJ, TE.sv, zK, zL, zM, ↓reduceIte, reduceCtorEq, Value.oneCell', Nat.reduceEqDiff, Nat.reduceAdd, Nat.reduceLT, Nat.reduceBEq, Nat.reduceSub, Nat.reduceLeDiff, zP, zQ, zR, zS, zT, zU, zV, zW, zX, zY, zZ, za, zb, zc, zd, ze, zf, zg, zh, zi, zj, zk, zl, zm, zn, zo, zp, zq, zr, zt, zu, zw, zx, zy, zz, cE, jA, jB, hap, killE, deadOf, rwE, cD, cO, jC, jD, jE, jF, jG, jH, jI, jJ, jK, jL, jM, jN, jO, jP, jQ, jR, jS, jT, jU, jV, jW, jX, jY, hP, hk, res52, kp52, dM0, rowNumD, rowEncR, slDd, slDd2, rwB, rwE, Int.toNat_natCast, UInt8.ofNat_toNat, Nat.reduceMul, Nat.reduceLeDiff, if_true, Int.reduceToNat, Nat.reduceAdd, Nat.mul_one, c0])
  refine ⟨by decide, ?_⟩
  refine Run_nilrowG true (en' := []) (sl' := slDd s 0 0) (5, 0, rowP 1 0 0) rfl (fun _ => ⟨rfl, .inr ⟨rfl, rfl, rfl⟩⟩) (fun _ => u8d) trivial ?_ ?_
  · refine ⟨⟨⟨_, rfl, fun ρ h => rfl⟩, ?_⟩, ⟨⟨_, rfl, fun ρ h => ?_⟩, ?_⟩, ⟨⟨_, rfl, fun ρ h => rfl⟩, ?_⟩, trivial⟩
    rotate_left
    · have h : (ρ 0).nl = some none := h
      simp only [SV.den, SC.den, rwOf_off h]
    all_goals simp [SV.wf, SC.wf, zG]
  refine Run_loopP (ι := { y : Nat × List UInt8 // y.1 ≤ s.length ∧ y.1 % 4 = 0 ∧ y.2.length ≤ 3 * y.1 ∧ decR (s.drop y.1) y.2 = decR s [] }) (fun y => slDd s y.1.1 y.1.2.length) (fun y => [rwB y.1.2]) (fun y => s.length - y.1.1) ⟨(0, []), Nat.zero_le _, rfl, by simp, rfl⟩ (sub_mk ⟨rfl, rfl, rfl, trivial⟩) rfl ?_
  rintro ⟨⟨i, out⟩, hi, hi4, hol, hall⟩ D dP dS dw dn dr dk ddf dPan dRet hX hJ
  have hP0 := hP; have hk0 := hk; have hctr0 := hctr
  have hP : D.P = Tryz.prog := by rw [dP]; exact hP0
  have hk : D.kp = kp52 := by rw [dk]; exact hk0
  have hctr : CtrOk D dM0 := dM0_ok hP
  simp only at hi hi4 hol hall
  have dFin : ∀ l b en, refV s = (l, b) → Fin D res52 (.t [.c (.s l), .c (.b b)]) en := fun l b en h ρ a w' hw hn' hwf hd hr => dRet _ _ (fin l b en h ρ a w' (hw.toC dS.symm dw.symm dr.symm dn.symm) (by rw [← dn]; exact hn') hwf (hd.trans ddf) (fun fn h => by rw [← dP]; exact hr fn h))
  show Run D _ _ (slDd s i out.length) [rwB out]
  by_cases hin : i < s.length
  · have q1 : decide ((i : Int) < (s.length : Int)) = true := decide_eq_true (by omega)
    obtain ⟨c4, hc4⟩ : ∃ c4, (s.drop i).take 4 = c4 := ⟨_, rfl⟩
    have hc4l : c4.length = 4 := by rw [← hc4]; simp; omega
    have hget : ∀ k, k < 4 → c4[k]? = s[i + k]? := fun k hk => by rw [← hc4, List.getElem?_take_of_lt hk, List.getElem?_drop]
    have hdd : s.drop i = c4 ++ s.drop (i + 4) := by
      have := List.take_append_drop 4 (s.drop i)
      rw [hc4, List.drop_drop] at this
      exact this.symm
    obtain ⟨la, hla⟩ : ∃ la, decide (s.drop (i + 4) = []) = la := ⟨_, rfl⟩
    have hlast : (((i + 4 : Nat) : Int) == (s.length : Int)) = la := by
      rw [← hla, Bool.eq_iff_iff, beq_iff_eq, decide_eq_true_iff, List.drop_eq_nil_iff]; omega
    have hstep : decR (s.drop i) out = (match decG la 0 0 0 c4 with | some (n, p) => decR (s.drop (i + 4)) (out ++ three n p) | none => none) := by
      rw [hdd]
      match c4, hc4l with
      | [c, d, e, f], _ =>
        simp only [List.cons_append, List.nil_append, decR, hla]
        rcases decG la 0 0 0 [c, d, e, f] with _ | ⟨n, p⟩ <;> rfl
    rw [hstep] at hall
    have hbad : decG la 0 0 0 c4 = none → refV s = ([], false) := fun h => by
      rw [h] at hall
      unfold refV refDec
      rw [if_neg (by omega), ← hall]
    have p0 : (0 : Int) ≤ (i : Int) := by omega
    have p4 : IntKind.i64.wrap ((i : Int) + 4) = ((i + 4 : Nat) : Int) := by rw [IntWalk.i64_in _ (by omega)]; rfl
    (refine VT_ok hctr (rs := res52) true 300 _ _ _ ?_; simp (maxSteps := 1000000) only [VT, jf, jg, jZ, ja, jd, je, VC, qA, qB, qC, qD, qE, qF, qG, qH, qI, qJ, qK, qL, qM, qN, qO, qP, qQ, qR, qS, qT, qU, qV, qW, qX, qY, qZ, qe, qf, qg, qh, qj, qk, ql, qm, qn, qo, qp, qq, q0t, qu, qv, ev, qw, qy, qz, zA, zB, zC, zD, zE, zF, zG, zH, zI, zJ, TE.sv, zK, zL, zM, ↓reduceIte, reduceCtorEq, Value.oneCell', Nat.reduceEqDiff, Nat.reduceAdd, Nat.reduceLT, Nat.reduceBEq, Nat.reduceSub, Nat.reduceLeDiff, zP, zQ, zR, zS, zT, zU, zV, zW, zX, zY, zZ, za, zb, zc, zd, ze, zf, zg, zh, zi, zj, zk, zl, zm, zn, zo, zp, zq, zr, zt, zu, zw, zx, zy, zz, cE, jA, jB, hap, killE, deadOf, rwE, cD, cO, jC, jD, jE, jF, jG, jH, jI, jJ, jK, jL, jM, jN, jO, jP, jQ, jR, jS, jT, jU, jV, jW, jX, jY, hP, hk, res52, kp52, dM0, rowNumD, rowEncR, slDd, slDd2, rwB, rwE, Int.toNat_natCast, UInt8.ofNat_toNat, Nat.reduceMul, Nat.reduceLeDiff, if_true, Int.reduceToNat, Nat.reduceAdd, Nat.mul_one, q1])
    refine Run_loopP (ι := { y : Nat × Nat × Nat // y.1 ≤ 4 ∧ y.2.1 < 64 ^ y.1 ∧ (y.2.2 = 0 ∨ y.2.2 + 2 ≤ y.1) ∧ decG la y.1 y.2.1 y.2.2 (c4.drop y.1) = decG la 0 0 0 c4 }) (fun y => slDd2 s i out.length y.1.1 y.1.2.1 y.1.2.2) (fun _ => [rwB out]) (fun y => 5 - y.1.1) ⟨(0, 0, 0), by simp only; omega, by simp, Or.inl rfl, rfl⟩ (sub_mk ⟨rfl, rfl, rfl, rfl, rfl, rfl, trivial⟩) rfl ?_
    rintro ⟨⟨k, n, p⟩, hk4, hnk, hpk, hdg⟩ D2 dP2 dS2 dw2 dn2 dr2 dk2 ddf2 dPan2 dRet2 hX2 hJ2
    have hP1 := hP; have hk1 := hk; have hctr1 := hctr
    have hP : D2.P = Tryz.prog := by rw [dP2]; exact hP1
    have hk : D2.kp = kp52 := by rw [dk2]; exact hk1
    have hctr : CtrOk D2 dM0 := dM0_ok hP
    simp only at hk4 hnk hpk hdg
    have d2Fin : ∀ l b en, refV s = (l, b) → Fin D2 res52 (.t [.c (.s l), .c (.b b)]) en := fun l b en h ρ a w' hw hn' hwf hd hr => dRet2 _ _ (dFin l b en h ρ a w' (hw.toC dS2.symm dw2.symm dr2.symm dn2.symm) (by rw [← dn2]; exact hn') hwf (hd.trans ddf2) (fun fn h => by rw [← dP2]; exact hr fn h))
    show Run D2 _ _ (slDd2 s i out.length k n p) [rwB out]
    by_cases hk4' : k < 4
    · have q2 : decide ((k : Int) < 4) = true := decide_eq_true (by omega)
      have hnb : n < 262144 := Nat.lt_of_lt_of_le hnk (by
        have : (64 : Nat) ^ k ≤ 64 ^ 3 := Nat.pow_le_pow_right (by decide) (by omega)
        simpa using this)
      obtain ⟨x, hx⟩ : ∃ x, s[i + k]? = some x := ⟨_, List.getElem?_eq_getElem (by omega)⟩
      have hgx : s.getD (i + k) 0 = x := by rw [List.getD_eq_getElem?_getD, hx]; rfl
      have hx8 := lt8 x
      have x0 : (0 : Int) ≤ (x.toNat : Int) := by omega
      have x1 : (x.toNat : Int) < 256 := by omega
      have r1 : IntKind.i64.wrap ((i : Int) + (k : Int)) = ((i + k : Nat) : Int) := by rw [IntWalk.i64_in _ (by omega)]; omega
      have r2 : (0 : Int) ≤ ((i + k : Nat) : Int) := by omega
      have r3 : ((i + k : Nat) : Int) < (s.length : Int) := by omega
      have r4 : IntKind.i64.wrap ((k : Int) + 1) = ((k + 1 : Nat) : Int) := by rw [IntWalk.i64_in _ (by omega)]; rfl
      have r5 : IntKind.i64.wrap ((p : Int) + 1) = ((p + 1 : Nat) : Int) := by rw [IntWalk.i64_in _ (by omega)]; rfl
      have hcd : c4.drop k = x :: c4.drop (k + 1) := by
        have hkl : k < c4.length := by omega
        rw [List.drop_eq_getElem_cons hkl]; congr 1
        have := hget k hk4'
        rw [hx] at this
        exact (List.getElem?_eq_some_iff.1 this).2
      rw [hcd, decG] at hdg
      have hnum := numD_ib x
      by_cases hx61 : x = 61
      · have g1 : ((x.toNat : Int) == 61) = true := by rw [hx61]; rfl
        cases la with
        | false =>
          by_cases hib : Lib.indexByte b64L x < 0
          · rw [if_pos hib] at hnum
            rw [if_neg (fun h => by simp at h), if_pos (Or.inl hib)] at hdg
            (refine VT_ok hctr (rs := res52) true 300 _ _ _ ?_; simp (maxSteps := 1000000) only [VT, jf, jg, jZ, ja, jd, je, VC, qA, qB, qC, qD, qE, qF, qG, qH, qI, qJ, qK, qL, qM, qN, qO, qP, qQ, qR, qS, qT, qU, qV, qW, qX, qY, qZ, qe, qf, qg, qh, qj, qk, ql, qm, qn, qo, qp, qq, q0t, qu, qv, ev, qw, qy, qz, zA, zB, zC, zD, zE, zF, zG, zH, zI, zJ, TE.sv, zK, zL, zM, ↓reduceIte, reduceCtorEq, Value.oneCell', Nat.reduceEqDiff, Nat.reduceAdd, Nat.reduceLT, Nat.reduceBEq, Nat.reduceSub, Nat.reduceLeDiff, zP, zQ, zR, zS, zT, zU, zV, zW, zX, zY, zZ, za, zb, zc, zd, ze, zf, zg, zh, zi, zj, zk, zl, zm, zn, zo, zp, zq, zr, zt, zu, zw, zx, zy, zz, cE, jA, jB, hap, killE, deadOf, rwE, cD, cO, jC, jD, jE, jF, jG, jH, jI, jJ, jK, jL, jM, jN, jO, jP, jQ, jR, jS, jT, jU, jV, jW, jX, jY, hP, hk, res52, kp52, dM0, rowNumD, rowEncR, slDd, slDd2, rwB, rwE, Int.toNat_natCast, UInt8.ofNat_toNat, Nat.reduceMul, Nat.reduceLeDiff, if_true, Int.reduceToNat, Nat.reduceAdd, Nat.mul_one, q2, p0, p4, r1, r2, r3, r4, r5, x0, x1, hgx, g1, hlast, hnum, Bool.not_false])
            repeat (refine ⟨by first | decide | omega, ?_⟩)
            exact d2Fin _ _ _ (hbad hdg.symm)
          · rw [if_neg hib] at hnum
            obtain ⟨v, hv⟩ := Int.eq_ofNat_of_zero_le (by omega : 0 ≤ Lib.indexByte b64L x)
            have hv64 : v < 64 := by have := ib_lt b64L x; rw [hv] at this; exact Int.ofNat_lt.1 this
            rw [hv] at hnum
            have hnum : numD x = ((v : Int), true) := hnum
            by_cases hp0 : 0 < p
            · have j0 : decide ((0 : Int) < (p : Int)) = true := decide_eq_true (by omega)
              rw [if_neg (fun h => by simp at h), if_pos (Or.inr hp0)] at hdg
              (refine VT_ok hctr (rs := res52) true 300 _ _ _ ?_; simp (maxSteps := 1000000) only [VT, jf, jg, jZ, ja, jd, je, VC, qA, qB, qC, qD, qE, qF, qG, qH, qI, qJ, qK, qL, qM, qN, qO, qP, qQ, qR, qS, qT, qU, qV, qW, qX, qY, qZ, qe, qf, qg, qh, qj, qk, ql, qm, qn, qo, qp, qq, q0t, qu, qv, ev, qw, qy, qz, zA, zB, zC, zD, zE, zF, zG, zH, zI, zJ, TE.sv, zK, zL, zM, ↓reduceIte, reduceCtorEq, Value.oneCell', Nat.reduceEqDiff, Nat.reduceAdd, Nat.reduceLT, Nat.reduceBEq, Nat.reduceSub, Nat.reduceLeDiff, zP, zQ, zR, zS, zT, zU, zV, zW, zX, zY, zZ, za, zb, zc, zd, ze, zf, zg, zh, zi, zj, zk, zl, zm, zn, zo, zp, zq, zr, zt, zu, zw, zx, zy, zz, cE, jA, jB, hap, killE, deadOf, rwE, cD, cO, jC, jD, jE, jF, jG, jH, jI, jJ, jK, jL, jM, jN, jO, jP, jQ, jR, jS, jT, jU, jV, jW, jX, jY, hP, hk, res52, kp52, dM0, rowNumD, rowEncR, slDd, slDd2, rwB, rwE, Int.toNat_natCast, UInt8.ofNat_toNat, Nat.reduceMul, Nat.reduceLeDiff, if_true, Int.reduceToNat, Nat.reduceAdd, Nat.mul_one, q2, p0, p4, r1, r2, r3, r4, r5, x0, x1, hgx, g1, hlast, hnum, j0, Bool.not_true])
              repeat (refine ⟨by first | decide | omega, ?_⟩)
              exact d2Fin _ _ _ (hbad hdg.symm)
            · have j0 : decide ((0 : Int) < (p : Int)) = false := decide_eq_false (by omega)
              rw [if_neg (fun h => by simp at h), if_neg (fun h => h.elim hib hp0), hv, Int.toNat_natCast] at hdg
              have w1 : orZ .u32 (shlZ .u32 (n : Int) 6) (v : Int) = ((n * 64 + v : Nat) : Int) := by
                rw [show (6 : Int) = ((6 : Nat) : Int) from rfl, shlN _ _ (by decide), orN (Nat.mod_lt _ (by decide)) (by omega)]
                rw [show n * 2 ^ 6 % 4294967296 = n * 64 % 4294967296 by omega, or6 _ _ hv64]; congr 1; omega
              (refine VT_ok hctr (rs := res52) true 300 _ _ _ ?_; simp (maxSteps := 1000000) only [VT, jf, jg, jZ, ja, jd, je, VC, qA, qB, qC, qD, qE, qF, qG, qH, qI, qJ, qK, qL, qM, qN, qO, qP, qQ, qR, qS, qT, qU, qV, qW, qX, qY, qZ, qe, qf, qg, qh, qj, qk, ql, qm, qn, qo, qp, qq, q0t, qu, qv, ev, qw, qy, qz, zA, zB, zC, zD, zE, zF, zG, zH, zI, zJ, TE.sv, zK, zL, zM, ↓reduceIte, reduceCtorEq, Value.oneCell', Nat.reduceEqDiff, Nat.reduceAdd, Nat.reduceLT, Nat.reduceBEq, Nat.reduceSub, Nat.reduceLeDiff, zP, zQ, zR, zS, zT, zU, zV, zW, zX, zY, zZ, za, zb, zc, zd, ze, zf, zg, zh, zi, zj, zk, zl, zm, zn, zo, zp, zq, zr, zt, zu, zw, zx, zy, zz, cE, jA, jB, hap, killE, deadOf, rwE, cD, cO, jC, jD, jE, jF, jG, jH, jI, jJ, jK, jL, jM, jN, jO, jP, jQ, jR, jS, jT, jU, jV, jW, jX, jY, hP, hk, res52, kp52, dM0, rowNumD, rowEncR, slDd, slDd2, rwB, rwE, Int.toNat_natCast, UInt8.ofNat_toNat, Nat.reduceMul, Nat.reduceLeDiff, if_true, Int.reduceToNat, Nat.reduceAdd, Nat.mul_one, q2, p0, p4, r1, r2, r3, r4, r5, x0, x1, hgx, g1, hlast, hnum, j0, w1, Bool.not_true])
              repeat (refine ⟨by first | decide | omega, ?_⟩)
              exact hJ2 ⟨(k + 1, n * 64 + v, p), by simp only; omega, by simp only; rw [Nat.pow_succ]; omega, Or.inl (by simp only; omega), hdg⟩ _ (by show 5 - (k + 1) < 5 - k; omega) (sub_mk ⟨rfl, rfl, rfl, rfl, rfl, rfl, trivial⟩)
        | true =>
          by_cases hk2 : 2 ≤ k
          · have g3 : decide ((2 : Int) ≤ (k : Int)) = true := decide_eq_true (by omega)
            rw [if_pos ⟨hx61, rfl, hk2⟩] at hdg
            have hnum : numD x = (0, false) := by rw [hx61]; rfl
            have w1 : orZ .u32 (shlZ .u32 (n : Int) 6) 0 = ((n * 64 : Nat) : Int) := by
              rw [show (6 : Int) = ((6 : Nat) : Int) from rfl, shlN _ _ (by decide), show (0 : Int) = ((0 : Nat) : Int) from rfl, orN (Nat.mod_lt _ (by decide)) (by decide), Nat.or_zero]; congr 1; omega
            (refine VT_ok hctr (rs := res52) true 300 _ _ _ ?_; simp (maxSteps := 1000000) only [VT, jf, jg, jZ, ja, jd, je, VC, qA, qB, qC, qD, qE, qF, qG, qH, qI, qJ, qK, qL, qM, qN, qO, qP, qQ, qR, qS, qT, qU, qV, qW, qX, qY, qZ, qe, qf, qg, qh, qj, qk, ql, qm, qn, qo, qp, qq, q0t, qu, qv, ev, qw, qy, qz, zA, zB, zC, zD, zE, zF, zG, zH, zI, zJ, TE.sv, zK, zL, zM, ↓reduceIte, reduceCtorEq, Value.oneCell', Nat.reduceEqDiff, Nat.reduceAdd, Nat.reduceLT, Nat.reduceBEq, Nat.reduceSub, Nat.reduceLeDiff, zP, zQ, zR, zS, zT, zU, zV, zW, zX, zY, zZ, za, zb, zc, zd, ze, zf, zg, zh, zi, zj, zk, zl, zm, zn, zo, zp, zq, zr, zt, zu, zw, zx, zy, zz, cE, jA, jB, hap, killE, deadOf, rwE, cD, cO, jC, jD, jE, jF, jG, jH, jI, jJ, jK, jL, jM, jN, jO, jP, jQ, jR, jS, jT, jU, jV, jW, jX, jY, hP, hk, res52, kp52, dM0, rowNumD, rowEncR, slDd, slDd2, rwB, rwE, Int.toNat_natCast, UInt8.ofNat_toNat, Nat.reduceMul, Nat.reduceLeDiff, if_true, Int.reduceToNat, Nat.reduceAdd, Nat.mul_one, q2, p0, p4, r1, r2, r3, r4, r5, x0, x1, hgx, g1, hlast, g3, hnum, w1])
            repeat (refine ⟨by first | decide | omega, ?_⟩)
            exact hJ2 ⟨(k + 1, n * 64, p + 1), by simp only; omega, by simp only; rw [Nat.pow_succ]; omega, Or.inr (by simp only; omega), hdg⟩ _ (by show 5 - (k + 1) < 5 - k; omega) (sub_mk ⟨rfl, rfl, rfl, rfl, rfl, rfl, trivial⟩)
          · have g3 : decide ((2 : Int) ≤ (k : Int)) = false := decide_eq_false (by omega)
            by_cases hib : Lib.indexByte b64L x < 0
            · rw [if_pos hib] at hnum
              rw [if_neg (fun h => hk2 h.2.2), if_pos (Or.inl hib)] at hdg
              (refine VT_ok hctr (rs := res52) true 300 _ _ _ ?_; simp (maxSteps := 1000000) only [VT, jf, jg, jZ, ja, jd, je, VC, qA, qB, qC, qD, qE, qF, qG, qH, qI, qJ, qK, qL, qM, qN, qO, qP, qQ, qR, qS, qT, qU, qV, qW, qX, qY, qZ, qe, qf, qg, qh, qj, qk, ql, qm, qn, qo, qp, qq, q0t, qu, qv, ev, qw, qy, qz, zA, zB, zC, zD, zE, zF, zG, zH, zI, zJ, TE.sv, zK, zL, zM, ↓reduceIte, reduceCtorEq, Value.oneCell', Nat.reduceEqDiff, Nat.reduceAdd, Nat.reduceLT, Nat.reduceBEq, Nat.reduceSub, Nat.reduceLeDiff, zP, zQ, zR, zS, zT, zU, zV, zW, zX, zY, zZ, za, zb, zc, zd, ze, zf, zg, zh, zi, zj, zk, zl, zm, zn, zo, zp, zq, zr, zt, zu, zw, zx, zy, zz, cE, jA, jB, hap, killE, deadOf, rwE, cD, cO, jC, jD, jE, jF, jG, jH, jI, jJ, jK, jL, jM, jN, jO, jP, jQ, jR, jS, jT, jU, jV, jW, jX, jY, hP, hk, res52, kp52, dM0, rowNumD, rowEncR, slDd, slDd2, rwB, rwE, Int.toNat_natCast, UInt8.ofNat_toNat, Nat.reduceMul, Nat.reduceLeDiff, if_true, Int.reduceToNat, Nat.reduceAdd, Nat.mul_one, q2, p0, p4, r1, r2, r3, r4, r5, x0, x1, hgx, g1, hlast, g3, hnum, Bool.not_false])
              repeat (refine ⟨by first | decide | omega, ?_⟩)
              exact d2Fin _ _ _ (hbad hdg.symm)
            · rw [if_neg hib] at hnum
              obtain ⟨v, hv⟩ := Int.eq_ofNat_of_zero_le (by omega : 0 ≤ Lib.indexByte b64L x)
              have hv64 : v < 64 := by have := ib_lt b64L x; rw [hv] at this; exact Int.ofNat_lt.1 this
              rw [hv] at hnum
              have hnum : numD x = ((v : Int), true) := hnum
              by_cases hp0 : 0 < p
              · have j0 : decide ((0 : Int) < (p : Int)) = true := decide_eq_true (by omega)
                rw [if_neg (fun h => hk2 h.2.2), if_pos (Or.inr hp0)] at hdg
                (refine VT_ok hctr (rs := res52) true 300 _ _ _ ?_; simp (maxSteps := 1000000) only [VT, jf, jg, jZ, ja, jd, je, VC, qA, qB, qC, qD, qE, qF, qG, qH, qI, qJ, qK, qL, qM, qN, qO, qP, qQ, qR, qS, qT, qU, qV, qW, qX, qY, qZ, qe, qf, qg, qh, qj, qk, ql, qm, qn, qo, qp, qq, q0t, qu, qv, ev, qw, qy, qz, zA, zB, zC, zD, zE, zF, zG, zH, zI, zJ, TE.sv, zK, zL, zM, ↓reduceIte, reduceCtorEq, Value.oneCell', Nat.reduceEqDiff, Nat.reduceAdd, Nat.reduceLT, Nat.reduceBEq, Nat.reduceSub, Nat.reduceLeDiff, zP, zQ, zR, zS, zT, zU, zV, zW, zX, zY, zZ, za, zb, zc, zd, ze, zf, zg, zh, zi, zj, zk, zl, zm, zn, zo, zp, zq, zr, zt, zu, zw, zx, zy, zz, cE, jA, jB, hap, killE, deadOf, rwE, cD, cO, jC, jD, jE, jF, jG, jH, jI, jJ, jK, jL, jM, jN, jO, jP, jQ, jR, jS, jT, jU, jV, jW, jX, jY, hP, hk, res52, kp52, dM0, rowNumD, rowEncR, slDd, slDd2, rwB, rwE, Int.toNat_natCast, UInt8.ofNat_toNat, Nat.reduceMul, Nat.reduceLeDiff, if_true, Int.reduceToNat, Nat.reduceAdd, Nat.mul_one, q2, p0, p4, r1, r2, r3, r4, r5, x0, x1, hgx, g1, hlast, g3, hnum, j0, Bool.not_true])
                repeat (refine ⟨by first | decide | omega, ?_⟩)
                exact d2Fin _ _ _ (hbad hdg.symm)
              · have j0 : decide ((0 : Int) < (p : Int)) = false := decide_eq_false (by omega)
                rw [if_neg (fun h => hk2 h.2.2), if_neg (fun h => h.elim hib hp0), hv, Int.toNat_natCast] at hdg
                have w1 : orZ .u32 (shlZ .u32 (n : Int) 6) (v : Int) = ((n * 64 + v : Nat) : Int) := by
                  rw [show (6 : Int) = ((6 : Nat) : Int) from rfl, shlN _ _ (by decide), orN (Nat.mod_lt _ (by decide)) (by omega)]
                  rw [show n * 2 ^ 6 % 4294967296 = n * 64 % 4294967296 by omega, or6 _ _ hv64]; congr 1; omega
                (refine VT_ok hctr (rs := res52) true 300 _ _ _ ?_; simp (maxSteps := 1000000) only [VT, jf, jg, jZ, ja, jd, je, VC, qA, qB, qC, qD, qE, qF, qG, qH, qI, qJ, qK, qL, qM, qN, qO, qP, qQ, qR, qS, qT, qU, qV, qW, qX, qY, qZ, qe, qf, qg, qh, qj, qk, ql, qm, qn, qo, qp, qq, q0t, qu, qv, ev, qw, qy, qz, zA, zB, zC, zD, zE, zF, zG, zH, zI, zJ, TE.sv, zK, zL, zM, ↓reduceIte, reduceCtorEq, Value.oneCell', Nat.reduceEqDiff, Nat.reduceAdd, Nat.reduceLT, Nat.reduceBEq, Nat.reduceSub, Nat.reduceLeDiff, zP, zQ, zR, zS, zT, zU, zV, zW, zX, zY, zZ, za, zb, zc, zd, ze, zf, zg, zh, zi, zj, zk, zl, zm, zn, zo, zp, zq, zr, zt, zu, zw, zx, zy, zz, cE, jA, jB, hap, killE, deadOf, rwE, cD, cO, jC, jD, jE, jF, jG, jH, jI, jJ, jK, jL, jM, jN, jO, jP, jQ, jR, jS, jT, jU, jV, jW, jX, jY, hP, hk, res52, kp52, dM0, rowNumD, rowEncR, slDd, slDd2, rwB, rwE, Int.toNat_natCast, UInt8.ofNat_toNat, Nat.reduceMul, Nat.reduceLeDiff, if_true, Int.reduceToNat, Nat.reduceAdd, Nat.mul_one, q2, p0, p4, r1, r2, r3, r4, r5, x0, x1, hgx, g1, hlast, g3, hnum, j0, w1, Bool.not_true])
                repeat (refine ⟨by first | decide | omega, ?_⟩)
                exact hJ2 ⟨(k + 1, n * 64 + v, p), by simp only; omega, by simp only; rw [Nat.pow_succ]; omega, Or.inl (by simp only; omega), hdg⟩ _ (by show 5 - (k + 1) < 5 - k; omega) (sub_mk ⟨rfl, rfl, rfl, rfl, rfl, rfl, trivial⟩)
      · have g1 : ((x.toNat : Int) == 61) = false := by
          rw [beq_eq_false_iff_ne]; intro h; exact hx61 (UInt8.toNat_inj.1 (by have : (61 : UInt8).toNat = 61 := rfl; omega))
        by_cases hib : Lib.indexByte b64L x < 0
        · rw [if_pos hib] at hnum
          rw [if_neg (fun h => hx61 h.1), if_pos (Or.inl hib)] at hdg
          (refine VT_ok hctr (rs := res52) true 300 _ _ _ ?_; simp (maxSteps := 1000000) only [VT, jf, jg, jZ, ja, jd, je, VC, qA, qB, qC, qD, qE, qF, qG, qH, qI, qJ, qK, qL, qM, qN, qO, qP, qQ, qR, qS, qT, qU, qV, qW, qX, qY, qZ, qe, qf, qg, qh, qj, qk, ql, qm, qn, qo, qp, qq, q0t, qu, qv, ev, qw, qy, qz, zA, zB, zC, zD, zE, zF, zG, zH, zI, zJ, TE.sv, zK, zL, zM, ↓reduceIte, reduceCtorEq, Value.oneCell', Nat.reduceEqDiff, Nat.reduceAdd, Nat.reduceLT, Nat.reduceBEq, Nat.reduceSub, Nat.reduceLeDiff, zP, zQ, zR, zS, zT, zU, zV, zW, zX, zY, zZ, za, zb, zc, zd, ze, zf, zg, zh, zi, zj, zk, zl, zm, zn, zo, zp, zq, zr, zt, zu, zw, zx, zy, zz, cE, jA, jB, hap, killE, deadOf, rwE, cD, cO, jC, jD, jE, jF, jG, jH, jI, jJ, jK, jL, jM, jN, jO, jP, jQ, jR, jS, jT, jU, jV, jW, jX, jY, hP, hk, res52, kp52, dM0, rowNumD, rowEncR, slDd, slDd2, rwB, rwE, Int.toNat_natCast, UInt8.ofNat_toNat, Nat.reduceMul, Nat.reduceLeDiff, if_true, Int.reduceToNat, Nat.reduceAdd, Nat.mul_one, q2, p0, p4, r1, r2, r3, r4, r5, x0, x1, hgx, g1, hnum, Bool.not_false])
          repeat (refine ⟨by first | decide | omega, ?_⟩)
          exact d2Fin _ _ _ (hbad hdg.symm)
        · rw [if_neg hib] at hnum
          obtain ⟨v, hv⟩ := Int.eq_ofNat_of_zero_le (by omega : 0 ≤ Lib.indexByte b64L x)
          have hv64 : v < 64 := by have := ib_lt b64L x; rw [hv] at this; exact Int.ofNat_lt.1 this
          rw [hv] at hnum
          have hnum : numD x = ((v : Int), true) := hnum
          by_cases hp0 : 0 < p
          · have j0 : decide ((0 : Int) < (p : Int)) = true := decide_eq_true (by omega)
            rw [if_neg (fun h => hx61 h.1), if_pos (Or.inr hp0)] at hdg
            (refine VT_ok hctr (rs := res52) true 300 _ _ _ ?_; simp (maxSteps := 1000000) only [VT, jf, jg, jZ, ja, jd, je, VC, qA, qB, qC, qD, qE, qF, qG, qH, qI, qJ, qK, qL, qM, qN, qO, qP, qQ, qR, qS, qT, qU, qV, qW, qX, qY, qZ, qe, qf, qg, qh, qj, qk, ql, qm, qn, qo, qp, qq, q0t, qu, qv, ev, qw, qy, qz, zA, zB, zC, zD, zE, zF, zG, zH, zI, zJ, TE.sv, zK, zL, zM, ↓reduceIte, reduceCtorEq, Value.oneCell', Nat.reduceEqDiff, Nat.reduceAdd, Nat.reduceLT, Nat.reduceBEq, Nat.reduceSub, Nat.reduceLeDiff, zP, zQ, zR, zS, zT, zU, zV, zW, zX, zY, zZ, za, zb, zc, zd, ze, zf, zg, zh, zi, zj, zk, zl, zm, zn, zo, zp, zq, zr, zt, zu, zw, zx, zy, zz, cE, jA, jB, hap, killE, deadOf, rwE, cD, cO, jC, jD, jE, jF, jG, jH, jI, jJ, jK, jL, jM, jN, jO, jP, jQ, jR, jS, jT, jU, jV, jW, jX, jY, hP, hk, res52, kp52, dM0, rowNumD, rowEncR, slDd, slDd2, rwB, rwE, Int.toNat_natCast, UInt8.ofNat_toNat, Nat.reduceMul, Nat.reduceLeDiff, if_true, Int.reduceToNat, Nat.reduceAdd, Nat.mul_one, q2, p0, p4, r1, r2, r3, r4, r5, x0, x1, hgx, g1, hnum, j0, Bool.not_true])
            repeat (refine ⟨by first | decide | omega, ?_⟩)
            exact d2Fin _ _ _ (hbad hdg.symm)
          · have j0 : decide ((0 : Int) < (p : Int)) = false := decide_eq_false (by omega)
            rw [if_neg (fun h => hx61 h.1), if_neg (fun h => h.elim hib hp0), hv, Int.toNat_natCast] at hdg
            have w1 : orZ .u32 (shlZ .u32 (n : Int) 6) (v : Int) = ((n * 64 + v : Nat) : Int) := by
              rw [show (6 : Int) = ((6 : Nat) : Int) from rfl, shlN _ _ (by decide), orN (Nat.mod_lt _ (by decide)) (by omega)]
              rw [show n * 2 ^ 6 % 4294967296 = n * 64 % 4294967296 by omega, or6 _ _ hv64]; congr 1; omega
            (refine VT_ok hctr (rs := res52) true 300 _ _ _ ?_; simp (maxSteps := 1000000) only [VT, jf, jg, jZ, ja, jd, je, VC, qA, qB, qC, qD, qE, qF, qG, qH, qI, qJ, qK, qL, qM, qN, qO, qP, qQ, qR, qS, qT, qU, qV, qW, qX, qY, qZ, qe, qf, qg, qh, qj, qk, ql, qm, qn, qo, qp, qq, q0t, qu, qv, ev, qw, qy, qz, zA, zB, zC, zD, zE, zF, zG, zH, zI, zJ, TE.sv, zK, zL, zM, ↓reduceIte, reduceCtorEq, Value.oneCell', Nat.reduceEqDiff, Nat.reduceAdd, Nat.reduceLT, Nat.reduceBEq, Nat.reduceSub, Nat.reduceLeDiff, zP, zQ, zR, zS, zT, zU, zV, zW, zX, zY, zZ, za, zb, zc, zd, ze, zf, zg, zh, zi, zj, zk, zl, zm, zn, zo, zp, zq, zr, zt, zu, zw, zx, zy, zz, cE, jA, jB, hap, killE, deadOf, rwE, cD, cO, jC, jD, jE, jF, jG, jH, jI, jJ, jK, jL, jM, jN, jO, jP, jQ, jR, jS, jT, jU, jV, jW, jX, jY, hP, hk, res52, kp52, dM0, rowNumD, rowEncR, slDd, slDd2, rwB, rwE, Int.toNat_natCast, UInt8.ofNat_toNat, Nat.reduceMul, Nat.reduceLeDiff, if_true, Int.reduceToNat, Nat.reduceAdd, Nat.mul_one, q2, p0, p4, r1, r2, r3, r4, r5, x0, x1, hgx, g1, hnum, j0, w1, Bool.not_true])
            repeat (refine ⟨by first | decide | omega, ?_⟩)
            exact hJ2 ⟨(k + 1, n * 64 + v, p), by simp only; omega, by simp only; rw [Nat.pow_succ]; omega, Or.inl (by simp only; omega), hdg⟩ _ (by show 5 - (k + 1) < 5 - k; omega) (sub_mk ⟨rfl, rfl, rfl, rfl, rfl, rfl, trivial⟩)
    · have hk' : k = 4 := by omega
      subst hk'
      have q2 : decide (((4 : Nat) : Int) < 4) = false := rfl
      have hdg2 : decG la 0 0 0 c4 = some (n, p) := by
        rw [← hdg, List.drop_of_length_le (by omega), decG]
      rw [hdg2] at hall
      simp only at hall
      have hn24 : n < 16777216 := by simpa using hnk
      have t1 : shrZ .u32 (n : Int) 16 = ((n / 65536 : Nat) : Int) := by rw [show (16 : Int) = ((16 : Nat) : Int) from rfl, shrN _ _ (by decide)]
      have t2 : shrZ .u32 (n : Int) 8 = ((n / 256 : Nat) : Int) := by rw [show (8 : Int) = ((8 : Nat) : Int) from rfl, shrN _ _ (by decide)]
      have t3 : ∀ m : Nat, IntKind.u8.wrap (m : Int) = (((UInt8.ofNat m).toNat : Nat) : Int) := fun m => by rw [u8w, UInt8.toNat_ofNat']
      obtain ⟨f1, hf1⟩ : ∃ f, UInt8.ofNat (n / 65536) = f := ⟨_, rfl⟩
      obtain ⟨f2, hf2⟩ : ∃ f, UInt8.ofNat (n / 256) = f := ⟨_, rfl⟩
      obtain ⟨f3, hf3⟩ : ∃ f, UInt8.ofNat n = f := ⟨_, rfl⟩
      have u1 := t3 (n / 65536); have u2 := t3 (n / 256); have u3 := t3 n
      rw [hf1] at u1; rw [hf2] at u2; rw [hf3] at u3
      have h3 : three n p = [f1, f2, f3].take (3 - p) := by unfold three; rw [hf1, hf2, hf3]
      (refine VT_ok hctr (rs := res52) true 300 _ _ _ ?_; simp (maxSteps := 1000000) only [VT, jf, jg, jZ, ja, jd, je, VC, qA, qB, qC, qD, qE, qF, qG, qH, qI, qJ, qK, qL, qM, qN, qO, qP, qQ, qR, qS, qT, qU, qV, qW, qX, qY, qZ, qe, qf, qg, qh, qj, qk, ql, qm, qn, qo, qp, qq, q0t, qu, qv, ev, qw, qy, qz, zA, zB, zC, zD, zE, zF, zG, zH, zI, zJ, TE.sv, zK, zL, zM, ↓reduceIte, reduceCtorEq, Value.oneCell', Nat.reduceEqDiff, Nat.reduceAdd, Nat.reduceLT, Nat.reduceBEq, Nat.reduceSub, Nat.reduceLeDiff, zP, zQ, zR, zS, zT, zU, zV, zW, zX, zY, zZ, za, zb, zc, zd, ze, zf, zg, zh, zi, zj, zk, zl, zm, zn, zo, zp, zq, zr, zt, zu, zw, zx, zy, zz, cE, jA, jB, hap, killE, deadOf, rwE, cD, cO, jC, jD, jE, jF, jG, jH, jI, jJ, jK, jL, jM, jN, jO, jP, jQ, jR, jS, jT, jU, jV, jW, jX, jY, hP, hk, res52, kp52, dM0, rowNumD, rowEncR, slDd, slDd2, rwB, rwE, Int.toNat_natCast, UInt8.ofNat_toNat, Nat.reduceMul, Nat.reduceLeDiff, if_true, Int.reduceToNat, Nat.reduceAdd, Nat.mul_one, q2])
      refine hX2 rfl rfl ?_
      have hP := hP1; have hk := hk1; have hctr := hctr1
      have nx : ∀ (f : List UInt8) (m : Nat), f.length = m → three n p = f → ∀ E s', sub [(5, .c (.i .i64 ((i + 4 : Nat) : Int))), (4, .c (.rw 2 (out.length + m))), (0, .c (.s s))] s' → Run D [] 88 s' [E, ⟨(5, 0, whole), bytesC [f1, f2, f3], true⟩, rwB (out ++ f)] := fun f m hm hf E s' hs => by
        refine Run_less hs ?_
        have h3l : f.length ≤ 3 := by rw [← hf, h3]; simp
        have hJ' := hJ ⟨(i + 4, out ++ f), by simp only; omega, by simp only; omega, by simp; omega, by simp only; rw [← hf]; exact hall⟩ _ (by show s.length - (i + 4) < s.length - i; omega) (fun d v h => h)
        refine Run_keepN (f := fun _ => 2) (enK := [rwB (out ++ f)]) (slK := slDd s (i + 4) (out ++ f).length) ⟨fun q hq => absurd hq (by rw [dn, hn0]; exact Nat.not_lt_zero _), by rw [dn, hn0]; exact Nat.zero_le _⟩ (fun p q hp hq _ => ?_) ?_ ?_ hJ'
        · have hp : p < 1 := hp
          have hq : q < 1 := hq
          omega
        · refine ⟨⟨_, rfl, fun ρ => ?_, bytesC_wf _ _⟩, trivial⟩
          show dens _ (bytesC (out ++ f)) = dens ρ (bytesC (out ++ f))
          rw [bytesC_den, bytesC_den]
        · refine ⟨⟨?_, _, rfl, fun ρ => rfl⟩, ⟨?_, _, rfl, fun ρ => ?_⟩, ⟨?_, _, rfl, fun ρ => rfl⟩, trivial⟩
          all_goals simp [SV.wf, SC.wf, SV.den, SC.den, hm]
      have hp3 : p = 0 ∨ p = 1 ∨ p = 2 := by omega
      rcases hp3 with rfl | rfl | rfl
      · have s1 : IntKind.i64.wrap (3 - ((0 : Nat) : Int)) = ((3 : Nat) : Int) := by rw [IntWalk.i64_in _ (by decide)]; rfl
        (refine VT_ok hctr (rs := res52) true 300 _ _ _ ?_; simp (maxSteps := 1000000) only [VT, jf, jg, jZ, ja, jd, je, VC, qA, qB, qC, qD, qE, qF, qG, qH, qI, qJ, qK, qL, qM, qN, qO, qP, qQ, qR, qS, qT, qU, qV, qW, qX, qY, qZ, qe, qf, qg, qh, qj, qk, ql, qm, qn, qo, qp, qq, q0t, qu, qv, ev, qw, qy, qz, zA, zB, zC, zD, zE, zF, zG, zH, zI, zJ, TE.sv, zK, zL, zM, ↓reduceIte, reduceCtorEq, Value.oneCell', Nat.reduceEqDiff, Nat.reduceAdd, Nat.reduceLT, Nat.reduceBEq, Nat.reduceSub, Nat.reduceLeDiff, zP, zQ, zR, zS, zT, zU, zV, zW, zX, zY, zZ, za, zb, zc, zd, ze, zf, zg, zh, zi, zj, zk, zl, zm, zn, zo, zp, zq, zr, zt, zu, zw, zx, zy, zz, cE, jA, jB, hap, killE, deadOf, rwE, cD, cO, jC, jD, jE, jF, jG, jH, jI, jJ, jK, jL, jM, jN, jO, jP, jQ, jR, jS, jT, jU, jV, jW, jX, jY, hP, hk, res52, kp52, dM0, rowNumD, rowEncR, slDd, slDd2, rwB, rwE, Int.toNat_natCast, UInt8.ofNat_toNat, Nat.reduceMul, Nat.reduceLeDiff, if_true, Int.reduceToNat, Nat.reduceAdd, Nat.mul_one, t1, t2, u1, u2, u3, s1])
        repeat (refine ⟨by first | decide | omega | exact ⟨by decide, by decide, by decide⟩, ?_⟩)
        refine dec3_app (l := out) (f3 := [f1, f2, f3]) (lit := [f1, f2, f3]) (m := 3) hP (by rw [dn, hn0]) (by omega) rfl (by decide) rfl (by decide) rfl rfl (by simp) fun E => ?_
        (refine VT_ok hctr (rs := res52) true 300 _ _ _ ?_; simp (maxSteps := 1000000) only [VT, jf, jg, jZ, ja, jd, je, VC, qA, qB, qC, qD, qE, qF, qG, qH, qI, qJ, qK, qL, qM, qN, qO, qP, qQ, qR, qS, qT, qU, qV, qW, qX, qY, qZ, qe, qf, qg, qh, qj, qk, ql, qm, qn, qo, qp, qq, q0t, qu, qv, ev, qw, qy, qz, zA, zB, zC, zD, zE, zF, zG, zH, zI, zJ, TE.sv, zK, zL, zM, ↓reduceIte, reduceCtorEq, Value.oneCell', Nat.reduceEqDiff, Nat.reduceAdd, Nat.reduceLT, Nat.reduceBEq, Nat.reduceSub, Nat.reduceLeDiff, zP, zQ, zR, zS, zT, zU, zV, zW, zX, zY, zZ, za, zb, zc, zd, ze, zf, zg, zh, zi, zj, zk, zl, zm, zn, zo, zp, zq, zr, zt, zu, zw, zx, zy, zz, cE, jA, jB, hap, killE, deadOf, rwE, cD, cO, jC, jD, jE, jF, jG, jH, jI, jJ, jK, jL, jM, jN, jO, jP, jQ, jR, jS, jT, jU, jV, jW, jX, jY, hP, hk, res52, kp52, dM0, rowNumD, rowEncR, slDd, slDd2, rwB, rwE, Int.toNat_natCast, UInt8.ofNat_toNat, Nat.reduceMul, Nat.reduceLeDiff, if_true, Int.reduceToNat, Nat.reduceAdd, Nat.mul_one, p4])
        exact nx [f1, f2, f3] 3 rfl (by rw [h3]; rfl) E _ (sub_mk ⟨rfl, rfl, rfl, trivial⟩)
      · have s1 : IntKind.i64.wrap (3 - ((1 : Nat) : Int)) = ((2 : Nat) : Int) := by rw [IntWalk.i64_in _ (by decide)]; rfl
        (refine VT_ok hctr (rs := res52) true 300 _ _ _ ?_; simp (maxSteps := 1000000) only [VT, jf, jg, jZ, ja, jd, je, VC, qA, qB, qC, qD, qE, qF, qG, qH, qI, qJ, qK, qL, qM, qN, qO, qP, qQ, qR, qS, qT, qU, qV, qW, qX, qY, qZ, qe, qf, qg, qh, qj, qk, ql, qm, qn, qo, qp, qq, q0t, qu, qv, ev, qw, qy, qz, zA, zB, zC, zD, zE, zF, zG, zH, zI, zJ, TE.sv, zK, zL, zM, ↓reduceIte, reduceCtorEq, Value.oneCell', Nat.reduceEqDiff, Nat.reduceAdd, Nat.reduceLT, Nat.reduceBEq, Nat.reduceSub, Nat.reduceLeDiff, zP, zQ, zR, zS, zT, zU, zV, zW, zX, zY, zZ, za, zb, zc, zd, ze, zf, zg, zh, zi, zj, zk, zl, zm, zn, zo, zp, zq, zr, zt, zu, zw, zx, zy, zz, cE, jA, jB, hap, killE, deadOf, rwE, cD, cO, jC, jD, jE, jF, jG, jH, jI, jJ, jK, jL, jM, jN, jO, jP, jQ, jR, jS, jT, jU, jV, jW, jX, jY, hP, hk, res52, kp52, dM0, rowNumD, rowEncR, slDd, slDd2, rwB, rwE, Int.toNat_natCast, UInt8.ofNat_toNat, Nat.reduceMul, Nat.reduceLeDiff, if_true, Int.reduceToNat, Nat.reduceAdd, Nat.mul_one, t1, t2, u1, u2, u3, s1])
        repeat (refine ⟨by first | decide | omega | exact ⟨by decide, by decide, by decide⟩, ?_⟩)
        refine dec3_app (l := out) (f3 := [f1, f2]) (lit := [f1, f2, f3]) (m := 2) hP (by rw [dn, hn0]) (by omega) rfl (by decide) rfl (by decide) rfl rfl (by simp) fun E => ?_
        (refine VT_ok hctr (rs := res52) true 300 _ _ _ ?_; simp (maxSteps := 1000000) only [VT, jf, jg, jZ, ja, jd, je, VC, qA, qB, qC, qD, qE, qF, qG, qH, qI, qJ, qK, qL, qM, qN, qO, qP, qQ, qR, qS, qT, qU, qV, qW, qX, qY, qZ, qe, qf, qg, qh, qj, qk, ql, qm, qn, qo, qp, qq, q0t, qu, qv, ev, qw, qy, qz, zA, zB, zC, zD, zE, zF, zG, zH, zI, zJ, TE.sv, zK, zL, zM, ↓reduceIte, reduceCtorEq, Value.oneCell', Nat.reduceEqDiff, Nat.reduceAdd, Nat.reduceLT, Nat.reduceBEq, Nat.reduceSub, Nat.reduceLeDiff, zP, zQ, zR, zS, zT, zU, zV, zW, zX, zY, zZ, za, zb, zc, zd, ze, zf, zg, zh, zi, zj, zk, zl, zm, zn, zo, zp, zq, zr, zt, zu, zw, zx, zy, zz, cE, jA, jB, hap, killE, deadOf, rwE, cD, cO, jC, jD, jE, jF, jG, jH, jI, jJ, jK, jL, jM, jN, jO, jP, jQ, jR, jS, jT, jU, jV, jW, jX, jY, hP, hk, res52, kp52, dM0, rowNumD, rowEncR, slDd, slDd2, rwB, rwE, Int.toNat_natCast, UInt8.ofNat_toNat, Nat.reduceMul, Nat.reduceLeDiff, if_true, Int.reduceToNat, Nat.reduceAdd, Nat.mul_one, p4])
        exact nx [f1, f2] 2 rfl (by rw [h3]; rfl) E _ (sub_mk ⟨rfl, rfl, rfl, trivial⟩)
      · have s1 : IntKind.i64.wrap (3 - ((2 : Nat) : Int)) = ((1 : Nat) : Int) := by rw [IntWalk.i64_in _ (by decide)]; rfl
        (refine VT_ok hctr (rs := res52) true 300 _ _ _ ?_; simp (maxSteps := 1000000) only [VT, jf, jg, jZ, ja, jd, je, VC, qA, qB, qC, qD, qE, qF, qG, qH, qI, qJ, qK, qL, qM, qN, qO, qP, qQ, qR, qS, qT, qU, qV, qW, qX, qY, qZ, qe, qf, qg, qh, qj, qk, ql, qm, qn, qo, qp, qq, q0t, qu, qv, ev, qw, qy, qz, zA, zB, zC, zD, zE, zF, zG, zH, zI, zJ, TE.sv, zK, zL, zM, ↓reduceIte, reduceCtorEq, Value.oneCell', Nat.reduceEqDiff, Nat.reduceAdd, Nat.reduceLT, Nat.reduceBEq, Nat.reduceSub, Nat.reduceLeDiff, zP, zQ, zR, zS, zT, zU, zV, zW, zX, zY, zZ, za, zb, zc, zd, ze, zf, zg, zh, zi, zj, zk, zl, zm, zn, zo, zp, zq, zr, zt, zu, zw, zx, zy, zz, cE, jA, jB, hap, killE, deadOf, rwE, cD, cO, jC, jD, jE, jF, jG, jH, jI, jJ, jK, jL, jM, jN, jO, jP, jQ, jR, jS, jT, jU, jV, jW, jX, jY, hP, hk, res52, kp52, dM0, rowNumD, rowEncR, slDd, slDd2, rwB, rwE, Int.toNat_natCast, UInt8.ofNat_toNat, Nat.reduceMul, Nat.reduceLeDiff, if_true, Int.reduceToNat, Nat.reduceAdd, Nat.mul_one, t1, t2, u1, u2, u3, s1])
        repeat (refine ⟨by first | decide | omega | exact ⟨by decide, by decide, by decide⟩, ?_⟩)
        refine dec3_app (l := out) (f3 := [f1]) (lit := [f1, f2, f3]) (m := 1) hP (by rw [dn, hn0]) (by omega) rfl (by decide) rfl (by decide) rfl rfl (by simp) fun E => ?_
        (refine VT_ok hctr (rs := res52) true 300 _ _ _ ?_; simp (maxSteps := 1000000) only [VT, jf, jg, jZ, ja, jd, je, VC, qA, qB, qC, qD, qE, qF, qG, qH, qI, qJ, qK, qL, qM, qN, qO, qP, qQ, qR, qS, qT, qU, qV, qW, qX, qY, qZ, qe, qf, qg, qh, qj, qk, ql, qm, qn, qo, qp, qq, q0t, qu, qv, ev, qw, qy, qz, zA, zB, zC, zD, zE, zF, zG, zH, zI, zJ, TE.sv, zK, zL, zM, ↓reduceIte, reduceCtorEq, Value.oneCell', Nat.reduceEqDiff, Nat.reduceAdd, Nat.reduceLT, Nat.reduceBEq, Nat.reduceSub, Nat.reduceLeDiff, zP, zQ, zR, zS, zT, zU, zV, zW, zX, zY, zZ, za, zb, zc, zd, ze, zf, zg, zh, zi, zj, zk, zl, zm, zn, zo, zp, zq, zr, zt, zu, zw, zx, zy, zz, cE, jA, jB, hap, killE, deadOf, rwE, cD, cO, jC, jD, jE, jF, jG, jH, jI, jJ, jK, jL, jM, jN, jO, jP, jQ, jR, jS, jT, jU, jV, jW, jX, jY, hP, hk, res52, kp52, dM0, rowNumD, rowEncR, slDd, slDd2, rwB, rwE, Int.toNat_natCast, UInt8.ofNat_toNat, Nat.reduceMul, Nat.reduceLeDiff, if_true, Int.reduceToNat, Nat.reduceAdd, Nat.mul_one, p4])
        exact nx [f1] 1 rfl (by rw [h3]; rfl) E _ (sub_mk ⟨rfl, rfl, rfl, trivial⟩)
  · have q1 : decide ((i : Int) < (s.length : Int)) = false := decide_eq_false (by omega)
    (refine VT_ok hctr (rs := res52) true 300 _ _ _ ?_; simp (maxSteps := 1000000) only [VT, jf, jg, jZ, ja, jd, je, VC, qA, qB, qC, qD, qE, qF, qG, qH, qI, qJ, qK, qL, qM, qN, qO, qP, qQ, qR, qS, qT, qU, qV, qW, qX, qY, qZ, qe, qf, qg, qh, qj, qk, ql, qm, qn, qo, qp, qq, q0t, qu, qv, ev, qw, qy, qz, zA, zB, zC, zD, zE, zF, zG, zH, zI, zJ, TE.sv, zK, zL, zM, ↓reduceIte, reduceCtorEq, Value.oneCell', Nat.reduceEqDiff, Nat.reduceAdd, Nat.reduceLT, Nat.reduceBEq, Nat.reduceSub, Nat.reduceLeDiff, zP, zQ, zR, zS, zT, zU, zV, zW, zX, zY, zZ, za, zb, zc, zd, ze, zf, zg, zh, zi, zj, zk, zl, zm, zn, zo, zp, zq, zr, zt, zu, zw, zx, zy, zz, cE, jA, jB, hap, killE, deadOf, rwE, cD, cO, jC, jD, jE, jF, jG, jH, jI, jJ, jK, jL, jM, jN, jO, jP, jQ, jR, jS, jT, jU, jV, jW, jX, jY, hP, hk, res52, kp52, dM0, rowNumD, rowEncR, slDd, slDd2, rwB, rwE, Int.toNat_natCast, UInt8.ofNat_toNat, Nat.reduceMul, Nat.reduceLeDiff, if_true, Int.reduceToNat, Nat.reduceAdd, Nat.mul_one, q1])
    refine hX rfl rfl ?_
    have hP := hP0; have hk := hk0; have hctr := hctr0
    rw [List.drop_of_length_le (by omega)] at hall
    have hall : some out = decR s [] := hall
    have hrd : refDec s = if encR out = s then some out else none := by
      unfold refDec; rw [if_neg (by omega), ← hall]
    (refine VT_ok hctr (rs := res52) true 300 _ _ _ ?_; simp (maxSteps := 1000000) only [VT, jf, jg, jZ, ja, jd, je, VC, qA, qB, qC, qD, qE, qF, qG, qH, qI, qJ, qK, qL, qM, qN, qO, qP, qQ, qR, qS, qT, qU, qV, qW, qX, qY, qZ, qe, qf, qg, qh, qj, qk, ql, qm, qn, qo, qp, qq, q0t, qu, qv, ev, qw, qy, qz, zA, zB, zC, zD, zE, zF, zG, zH, zI, zJ, TE.sv, zK, zL, zM, ↓reduceIte, reduceCtorEq, Value.oneCell', Nat.reduceEqDiff, Nat.reduceAdd, Nat.reduceLT, Nat.reduceBEq, Nat.reduceSub, Nat.reduceLeDiff, zP, zQ, zR, zS, zT, zU, zV, zW, zX, zY, zZ, za, zb, zc, zd, ze, zf, zg, zh, zi, zj, zk, zl, zm, zn, zo, zp, zq, zr, zt, zu, zw, zx, zy, zz, cE, jA, jB, hap, killE, deadOf, rwE, cD, cO, jC, jD, jE, jF, jG, jH, jI, jJ, jK, jL, jM, jN, jO, jP, jQ, jR, jS, jT, jU, jV, jW, jX, jY, hP, hk, res52, kp52, dM0, rowNumD, rowEncR, slDd, slDd2, rwB, rwE, Int.toNat_natCast, UInt8.ofNat_toNat, Nat.reduceMul, Nat.reduceLeDiff, if_true, Int.reduceToNat, Nat.reduceAdd, Nat.mul_one, q1])
    refine bytes_rw (l := out) (by rw [hP]; exact Tryz.underlying73) (by rw [hP]; exact Tryz.underlying9) (by rw [hP]; exact Tryz.underlying5) rfl rfl rfl (by simp) ?_
    by_cases he : encR out = s
    · have g1 : (encR out == s) = true := by rw [he]; simp
      (refine VT_ok hctr (rs := res52) true 300 _ _ _ ?_; simp (maxSteps := 1000000) only [VT, jf, jg, jZ, ja, jd, je, VC, qA, qB, qC, qD, qE, qF, qG, qH, qI, qJ, qK, qL, qM, qN, qO, qP, qQ, qR, qS, qT, qU, qV, qW, qX, qY, qZ, qe, qf, qg, qh, qj, qk, ql, qm, qn, qo, qp, qq, q0t, qu, qv, ev, qw, qy, qz, zA, zB, zC, zD, zE, zF, zG, zH, zI, zJ, TE.sv, zK, zL, zM, ↓reduceIte, reduceCtorEq, Value.oneCell', Nat.reduceEqDiff, Nat.reduceAdd, Nat.reduceLT, Nat.reduceBEq, Nat.reduceSub, Nat.reduceLeDiff, zP, zQ, zR, zS, zT, zU, zV, zW, zX, zY, zZ, za, zb, zc, zd, ze, zf, zg, zh, zi, zj, zk, zl, zm, zn, zo, zp, zq, zr, zt, zu, zw, zx, zy, zz, cE, jA, jB, hap, killE, deadOf, rwE, cD, cO, jC, jD, jE, jF, jG, jH, jI, jJ, jK, jL, jM, jN, jO, jP, jQ, jR, jS, jT, jU, jV, jW, jX, jY, hP, hk, res52, kp52, dM0, rowNumD, rowEncR, slDd, slDd2, rwB, rwE, Int.toNat_natCast, UInt8.ofNat_toNat, Nat.reduceMul, Nat.reduceLeDiff, if_true, Int.reduceToNat, Nat.reduceAdd, Nat.mul_one, g1, Bool.not_true])
      refine ⟨by omega, ?_⟩
      refine bytes_rw (l := out) (by rw [hP]; exact Tryz.underlying73) (by rw [hP]; exact Tryz.underlying9) (by rw [hP]; exact Tryz.underlying5) rfl rfl rfl (by simp) ?_
      (refine VT_ok hctr (rs := res52) true 300 _ _ _ ?_; simp (maxSteps := 1000000) only [VT, jf, jg, jZ, ja, jd, je, VC, qA, qB, qC, qD, qE, qF, qG, qH, qI, qJ, qK, qL, qM, qN, qO, qP, qQ, qR, qS, qT, qU, qV, qW, qX, qY, qZ, qe, qf, qg, qh, qj, qk, ql, qm, qn, qo, qp, qq, q0t, qu, qv, ev, qw, qy, qz, zA, zB, zC, zD, zE, zF, zG, zH, zI, zJ, TE.sv, zK, zL, zM, ↓reduceIte, reduceCtorEq, Value.oneCell', Nat.reduceEqDiff, Nat.reduceAdd, Nat.reduceLT, Nat.reduceBEq, Nat.reduceSub, Nat.reduceLeDiff, zP, zQ, zR, zS, zT, zU, zV, zW, zX, zY, zZ, za, zb, zc, zd, ze, zf, zg, zh, zi, zj, zk, zl, zm, zn, zo, zp, zq, zr, zt, zu, zw, zx, zy, zz, cE, jA, jB, hap, killE, deadOf, rwE, cD, cO, jC, jD, jE, jF, jG, jH, jI, jJ, jK, jL, jM, jN, jO, jP, jQ, jR, jS, jT, jU, jV, jW, jX, jY, hP, hk, res52, kp52, dM0, rowNumD, rowEncR, slDd, slDd2, rwB, rwE, Int.toNat_natCast, UInt8.ofNat_toNat, Nat.reduceMul, Nat.reduceLeDiff, if_true, Int.reduceToNat, Nat.reduceAdd, Nat.mul_one])
      exact fin _ _ _ (by unfold refV; rw [hrd, if_pos he])
    · have g1 : (encR out == s) = false := by rw [beq_eq_false_iff_ne]; exact he
      (refine VT_ok hctr (rs := res52) true 300 _ _ _ ?_; simp (maxSteps := 1000000) only [VT, jf, jg, jZ, ja, jd, je, VC, qA, qB, qC, qD, qE, qF, qG, qH, qI, qJ, qK, qL, qM, qN, qO, qP, qQ, qR, qS, qT, qU, qV, qW, qX, qY, qZ, qe, qf, qg, qh, qj, qk, ql, qm, qn, qo, qp, qq, q0t, qu, qv, ev, qw, qy, qz, zA, zB, zC, zD, zE, zF, zG, zH, zI, zJ, TE.sv, zK, zL, zM, ↓reduceIte, reduceCtorEq, Value.oneCell', Nat.reduceEqDiff, Nat.reduceAdd, Nat.reduceLT, Nat.reduceBEq, Nat.reduceSub, Nat.reduceLeDiff, zP, zQ, zR, zS, zT, zU, zV, zW, zX, zY, zZ, za, zb, zc, zd, ze, zf, zg, zh, zi, zj, zk, zl, zm, zn, zo, zp, zq, zr, zt, zu, zw, zx, zy, zz, cE, jA, jB, hap, killE, deadOf, rwE, cD, cO, jC, jD, jE, jF, jG, jH, jI, jJ, jK, jL, jM, jN, jO, jP, jQ, jR, jS, jT, jU, jV, jW, jX, jY, hP, hk, res52, kp52, dM0, rowNumD, rowEncR, slDd, slDd2, rwB, rwE, Int.toNat_natCast, UInt8.ofNat_toNat, Nat.reduceMul, Nat.reduceLeDiff, if_true, Int.reduceToNat, Nat.reduceAdd, Nat.mul_one, g1, Bool.not_false])
      exact ⟨by omega, fin _ _ _ (by unfold refV; rw [hrd, if_neg he])⟩
end Go.Proofs.YtlaagebdbcmckaaGreatDoor
