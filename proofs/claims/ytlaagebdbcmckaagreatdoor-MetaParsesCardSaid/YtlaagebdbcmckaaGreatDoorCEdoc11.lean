/- The document's Parse (ambryref21), walked. Printed by gen_edoc11.py. -/
import Derived.Test.YtlaagebdbcmckaaGreatDoorCEdoc10
import Derived.Test.YtlaagebdbcmckaaGreatDoorCMetaDocF
import Derived.Test.YtlaagebdbcmckaaGreatDoorCEparse
namespace Go.Proofs.YtlaagebdbcmckaaGreatDoor
set_option linter.unusedSimpArgs false
set_option linter.unusedVariables false
set_option linter.unusedSimpArgs false
set_option linter.unusedVariables false
set_option maxHeartbeats 8000000
open Go.RowKit
set_option maxRecDepth 100000
theorem dsplit_h {C : Cx} {nE N : Nat} {mk : Nat → Prop} {en en' : List EN} (s : List UInt8) (hs : s.length ≤ 500000000) (hP : C.P = Tryz.prog) (hmk : ∀ q, mk q ↔ q = N) (hn0 : C.n0 ≤ N) (hN : zD en' N = some (wdE (splD s [] []))) (hq : ∀ q, q ≠ N → zD en' q = zD en q) :
    HCall C nE mk en en' 22 [.c (.s s)] (.c (.rw N (splD s [] []).length)) := by
  refine fresh_h (vals := (splD s [] []).map encW) (fun args w => by rw [hP]; exact Tryz.call22 args w) hmk hn0 hN hq (by show ¬ (9 : Nat) = DEAD; decide) (fun ρ => st_den ρ _) (fun pr => st_wf pr _) (fun pr h => h) ?_
  intro ρ pr w hw _ _
  rw [hP]
  refine (dsplit_w s hs w).mono ?_
  rintro z w' ⟨r, hr, rfl, hb⟩
  exact ⟨r, hr.made (fun ρ => st_den ρ _), fun ρ' _ h => by simp only [SV.den, SC.den, h], hb⟩
theorem dread_h {C : Cx} {nE Nw N : Nat} {mk : Nat → Prop} {en en' : List EN} {name : List UInt8} {rest : List (List UInt8)} {behind : List UInt8} {x : Mq × Int × Bool} (hP : C.P = Tryz.prog) (hE : EnvC C) (hw0 : zD en Nw = some (wdE (name :: rest))) (hNw : Nw < nE) (hl : ∀ x ∈ name :: rest, x ≠ [] ∧ x.length ≤ 5000) (hlen : rest.length + 1 ≤ 5000) (hkind : (kindM name).2 ≠ []) (hb : behind.length ≤ 9223372036854775806)
    (hx : readM name rest behind = x) (hmk : ∀ q, mk q ↔ q = N ∨ q = N + 1) (hn0 : C.n0 ≤ N) (hN : zD en' N = some (cmE x.1)) (hM : zD en' (N + 1) = some (flE x.1)) (hq : ∀ q, q ≠ N → q ≠ N + 1 → zD en' q = zD en q) :
    HCall C nE mk en en' 24 [.c (.rw Nw (rest.length + 1)), .c (.s behind)] (.t [.g (mqZ x.1 N), .c (.i .i64 (if x.2.2 then -1 else x.2.1))]) := by
  refine fresh2_h (N := N) (M := N + 1) (e1 := cmE x.1) (e2 := flE x.1) (vals1 := ecV x.1.cmds) (vals2 := x.1.flags.map encW) (fun args w => by rw [hP]; exact Tryz.call24 args w) hmk (by omega) hn0 (by omega) hN hM hq (by show ¬ (33 : Nat) = DEAD; decide) (by show ¬ (9 : Nat) = DEAD; decide) (fun ρ => ec_den ρ _) (fun ρ => st_den ρ _) (fun pr => ec_wf pr _) (fun pr => st_wf pr _) (fun pr h1 h2 => ?_) ?_
  · intro y hy
    simp only [List.mem_cons, List.not_mem_nil, or_false] at hy
    rcases hy with rfl | rfl
    · exact mqR_wf h1 h2
    · trivial
  · intro ρ pr w hw hpr _
    have lN := hpr Nw hNw
    have hne : (name :: rest).map SC.s ≠ [] := by simp
    have hnl : (ρ Nw).nl = none := Decidable.byContradiction fun hd => hne ((hw.hp Nw _ _ _ lN hw0).non hd)
    obtain ⟨_, _, hO⟩ := hw.ho Nw _ _ _ lN hw0
    obtain ⟨_, k1, _, k3, k4⟩ := hO.resolve_right (fun hd => by rw [hnl] at hd; exact absurd hd.1 (by simp))
    have hwd := (hw.hp Nw _ _ _ lN hw0).heap ⟨(by show ¬ (9 : Nat) = DEAD; decide), hnl⟩
    rw [k1, List.nil_append] at hwd
    have hraw : RawT w (some ⟨(ρ Nw).blk, 0, none⟩) (name :: rest) := by
      intro k y hy
      refine ⟨_, 0, rfl, (Array.getElem?_eq_some_iff.1 hwd).1, ?_⟩
      rw [Nat.zero_add, Go.cell_of_row w _ k _ _ (0, 0) hwd]
      have hi := (List.getElem?_eq_some_iff.1 hy).1
      simp only [List.getElem?_toArray]
      rw [List.getElem?_append_left (by simpa [dens] using hi)]
      simp only [dens, List.getElem?_map, hy]
      rfl
    have hv : (SC.rw Nw (rest.length + 1)).den ρ = .slice (some ⟨(ρ Nw).blk, 0, none⟩) (rest.length + 1) (ρ Nw).cap := rwOf_on hnl _
    have hargs : (List.map (SV.den ρ) [.c (.rw Nw (rest.length + 1)), .c (.s behind)]).toArray = #[.slice (some ⟨(ρ Nw).blk, 0, none⟩) (rest.length + 1) (ρ Nw).cap, .string ⟨behind.toArray⟩] := by
      simp only [List.map_cons, List.map_nil, SV.den, hv]; rfl
    rw [hargs, hP]
    refine (dread_w (hE w hw.up) hraw rfl k3 k4 hl hlen hkind behind hb).mono ?_
    rintro z w' ⟨hbl, v, rfl, r1, r2, rfl, m1, m2, m3⟩
    rw [hx] at *
    refine ⟨r1, r2, m1.made (fun ρ => ec_den ρ _), m2.made (fun ρ => st_den ρ _), m3, fun ρ' _ e1 e2 => ?_, hbl⟩
    rw [← e1, ← e2]; rfl
def rowFrontD : List SV → Option (Prop × SV)
  | [.c (.s b)] => some (b.length ≤ 9223372036854775806, .t [.c (.s (frontF b).1), .c (.i .i64 ((frontF b).2.1 : Int)), .g (mqS noS noS (frontF b).2.2.1), .c (.b (frontF b).2.2.2)])
  | _ => none
def dP0 : Ctr := fun f _ xs => match f with
  | 21 => rowFrontD xs
  | 23 => rowBadD xs
  | _ => none
theorem dP0_ok {C : Cx} (hP : C.P = Tryz.prog) : CtrOk C dP0 := by
  intro f en xs p v h hp ρ w hup hHp hHo hinj hwf
  unfold dP0 at h
  split at h
  · rw [hP]
    refine ⟨fun args w => Tryz.call21 args w, ?_⟩
    unfold rowFrontD at h
    split at h <;> simp only [Option.some.injEq, Prod.mk.injEq, reduceCtorEq] at h
    obtain ⟨rfl, rfl⟩ := h
    exact ⟨by simp [SV.wf, TE.wf, wfs, SC.wf, mqS, noS], dfront_w _ hp w ρ⟩
  · rw [hP]
    refine ⟨fun args w => Tryz.call23 args w, ?_⟩
    unfold rowBadD at h
    split at h <;> simp only [Option.some.injEq, Prod.mk.injEq, reduceCtorEq] at h
    obtain ⟨rfl, rfl⟩ := h
    exact ⟨by simp [SV.wf, wfs, SC.wf, mqS, noS], dbad_w _ w ρ⟩
  · cases h
theorem front_none (b : List UInt8) : (frontF b).2.2.1.cmds = [] ∧ (frontF b).2.2.1.flags = [] := by
  unfold frontF
  repeat' split
  all_goals exact ⟨rfl, rfl⟩
theorem front_len {b : List UInt8} (h : (frontF b).2.2.2 = true) : (frontF b).1.length ≤ 2048 ∧ (frontF b).2.1 ≤ b.length := by
  unfold frontF at h ⊢
  split at h
  · rename_i hc
    rw [if_pos hc]
    have e : lineV b = (let l := b.takeWhile (· != 10); if l.length < b.length then ((if l.getLast? = some 13 then l.dropLast else l), l.length + 1) else ([], 0)) := rfl
    simp only at e
    split at e
    · rename_i hl
      rw [e] at hc ⊢
      simp only at hc ⊢
      refine ⟨?_, by omega⟩
      split
      · rw [List.length_dropLast]; omega
      · omega
    · rw [e] at hc; exact absurd hc.1 (by simp)
  · split at h <;> cases h
theorem dparse_w (b : List UInt8) (hb : b.length ≤ 9223372036854775806) (w : World) (hE0 : Env w) : Calls Tryz.prog 11 #[.string ⟨b.toArray⟩] w (MPost w (mParse b)) := by
  rw [← doc_is]
  refine calls_of_Run Tryz.func11 rfl kp11 (S := Non) (ρ := fun _ => reOf 0) (en := []) [.c (.s b)] Tryz.ntmps11 (At.nil _ _ _) (by simp [SV.wf, SC.wf]) (by simp) ?_
  intro C hC hP hk
  have hEC : EnvC C := fun w' hu => by rw [hC] at hu; exact hE0.below hu.to_below
  have hctr := dP0_ok hP
  have hS : C.S = Non := by rw [hC]; rfl
  have hw0 : C.w0 = w := by rw [hC]; rfl
  have hn0 : C.n0 = 0 := by rw [hC]; rfl
  obtain ⟨e1, e2⟩ := front_none b
  have e3 := front_len (b := b)
  have hdoc : docP b = if (frontF b).2.2.2 then lineM (frontF b).2.1 (b.drop (frontF b).2.1) (wordsF ((frontF b).1.length + 1) (frontF b).1) else ((frontF b).2.2.1, ((frontF b).2.1 : Int)) := rfl
  have hfr : frontF b = ((frontF b).1, (frontF b).2.1, (frontF b).2.2.1, (frontF b).2.2.2) := rfl
  obtain ⟨s, n, r, ok, hF⟩ : ∃ s n r ok, frontF b = (s, n, r, ok) := ⟨_, _, _, _, hfr⟩
  rw [hF] at hdoc e1 e2 e3
  simp only at hdoc e1 e2 e3
  have hfin : ∀ (r : Mq) (m : Int) (en : List EN), docP b = (r, m) → r.cmds = [] → r.flags = [] → Fin C res11 (.t [.g (mqS noS noS r), .c (.i .i64 m)]) en := fun r m en h1 h2 h3 => by
    refine Fin_cx (v := .t [.g (mqS noS noS r), .c (.i .i64 m)]) hC hres11 fun ρ w' hw _ _ => ?_
    have hup := hw.up
    rw [hC] at hup
    rw [h1]
    exact ⟨hup.to_below, _, rfl, MqV.none h2 h3⟩
  cases ok with
  | false =>
    rw [if_neg (by simp)] at hdoc
    (refine VT_ok hctr (rs := res11) true 300 _ _ _ ?_; simp (maxSteps := 1000000) only [VT, jf, jg, jZ, ja, jd, je, VC, qA, qB, qC, qD, qE, qF, qG, qH, qI, qJ, qK, qL, qM, qN, qO, qP, qQ, qR, qS, qT, qU, qV, qW, qX, qY, qZ, qe, qf, qg, qh, qj, qk, ql, qm, qn, qo, qp, qq, q0t, qu, qv, ev, qw, qy, qz, zA, zB, zC, zD, zE, zF, zG, zH, zI, zJ, TE.sv, zK, zL, zM, ↓reduceIte, reduceCtorEq, Value.oneCell', Nat.reduceEqDiff, Nat.reduceAdd, Nat.reduceLT, Nat.reduceBEq, Nat.reduceSub, Nat.reduceLeDiff, zP, zQ, zR, zS, zT, zU, zV, zW, zX, zY, zZ, za, zb, zc, zd, ze, zf, zg, zh, zi, zj, zk, zl, zm, zn, zo, zp, zq, zr, zt, zu, zw, zx, zy, zz, cE, jA, jB, hap, killE, deadOf, rwE, cD, cO, jC, jD, jE, jF, jG, jH, jI, jJ, jK, jL, jM, jN, jO, jP, jQ, jR, jS, jT, jU, jV, jW, jX, jY, hP, hk, res11, kp11, dP0, rowFrontD, rowBadD, mqS, noS, badM, Int.toNat_natCast, Int.toNat_zero, Int.toNat_one, Nat.mul_one, Nat.zero_mul, Nat.add_zero, Nat.sub_zero, Int.le_refl, Nat.reduceMul, List.drop_zero, hF, Bool.not_false])
    exact ⟨hb, hfin r n _ hdoc e1 e2⟩
  | true =>
    rw [if_pos rfl] at hdoc
    obtain ⟨hs, hnb⟩ := e3 rfl
    (refine VT_ok hctr (rs := res11) true 300 _ _ _ ?_; simp (maxSteps := 1000000) only [VT, jf, jg, jZ, ja, jd, je, VC, qA, qB, qC, qD, qE, qF, qG, qH, qI, qJ, qK, qL, qM, qN, qO, qP, qQ, qR, qS, qT, qU, qV, qW, qX, qY, qZ, qe, qf, qg, qh, qj, qk, ql, qm, qn, qo, qp, qq, q0t, qu, qv, ev, qw, qy, qz, zA, zB, zC, zD, zE, zF, zG, zH, zI, zJ, TE.sv, zK, zL, zM, ↓reduceIte, reduceCtorEq, Value.oneCell', Nat.reduceEqDiff, Nat.reduceAdd, Nat.reduceLT, Nat.reduceBEq, Nat.reduceSub, Nat.reduceLeDiff, zP, zQ, zR, zS, zT, zU, zV, zW, zX, zY, zZ, za, zb, zc, zd, ze, zf, zg, zh, zi, zj, zk, zl, zm, zn, zo, zp, zq, zr, zt, zu, zw, zx, zy, zz, cE, jA, jB, hap, killE, deadOf, rwE, cD, cO, jC, jD, jE, jF, jG, jH, jI, jJ, jK, jL, jM, jN, jO, jP, jQ, jR, jS, jT, jU, jV, jW, jX, jY, hP, hk, res11, kp11, dP0, rowFrontD, rowBadD, mqS, noS, badM, Int.toNat_natCast, Int.toNat_zero, Int.toNat_one, Nat.mul_one, Nat.zero_mul, Nat.add_zero, Nat.sub_zero, Int.le_refl, Nat.reduceMul, List.drop_zero, hF, Bool.not_true])
    refine ⟨hb, ?_⟩
    have hsp : splD s [] [] = wordsF (s.length + 1) s := by have := spl_is (s.length + 1) s [] (Nat.lt_succ_self _); simpa using this
    obtain ⟨ws, hws⟩ : ∃ ws, wordsF (s.length + 1) s = ws := ⟨_, rfl⟩
    rw [hws] at hdoc
    refine Run_hcall rfl (.c (.rw 2 ws.length)) [⟨(26, 0, whole), mqS noS noS Mq.zero, true⟩, ⟨(26, 0, whole), mqS noS noS r, true⟩, wdE ws] (by
      rw [← hws, ← hsp]
      exact dsplit_h s (by omega) hP (mk_new rfl) (by rw [hn0]; exact Nat.zero_le _) rfl (fun q hq => by match q with | 0 => rfl | 1 => rfl | 2 => exact absurd rfl hq | _ + 3 => rfl)) (by simp [zG]) (by simp) ?_
    have hnb' : (n : Int) ≤ (b.length : Int) := by omega
    have hn0' : (0 : Int) ≤ (n : Int) := by omega
    cases ws with
    | nil =>
      have c2 : (((0 : Nat) : Int) == 0) = true := rfl
      (refine VT_ok hctr (rs := res11) true 300 _ _ _ ?_; simp (maxSteps := 1000000) only [VT, jf, jg, jZ, ja, jd, je, VC, qA, qB, qC, qD, qE, qF, qG, qH, qI, qJ, qK, qL, qM, qN, qO, qP, qQ, qR, qS, qT, qU, qV, qW, qX, qY, qZ, qe, qf, qg, qh, qj, qk, ql, qm, qn, qo, qp, qq, q0t, qu, qv, ev, qw, qy, qz, zA, zB, zC, zD, zE, zF, zG, zH, zI, zJ, TE.sv, zK, zL, zM, ↓reduceIte, reduceCtorEq, Value.oneCell', Nat.reduceEqDiff, Nat.reduceAdd, Nat.reduceLT, Nat.reduceBEq, Nat.reduceSub, Nat.reduceLeDiff, zP, zQ, zR, zS, zT, zU, zV, zW, zX, zY, zZ, za, zb, zc, zd, ze, zf, zg, zh, zi, zj, zk, zl, zm, zn, zo, zp, zq, zr, zt, zu, zw, zx, zy, zz, cE, jA, jB, hap, killE, deadOf, rwE, cD, cO, jC, jD, jE, jF, jG, jH, jI, jJ, jK, jL, jM, jN, jO, jP, jQ, jR, jS, jT, jU, jV, jW, jX, jY, hP, hk, res11, kp11, dP0, rowFrontD, rowBadD, mqS, noS, badM, Int.toNat_natCast, Int.toNat_zero, Int.toNat_one, Nat.mul_one, Nat.zero_mul, Nat.add_zero, Nat.sub_zero, Int.le_refl, Nat.reduceMul, List.drop_zero, c2, wdE, rwE, Mq.zero, List.length_nil])
      exact hfin (badM f_unknown 0) n _ (by rw [hdoc]; rfl) rfl rfl
    | cons name rest =>
      obtain ⟨m, hm⟩ : ∃ m, rest.length + 1 = m := ⟨_, rfl⟩
      have c2 : ((m : Int) == 0) = false := by
        have : ¬ (m : Int) = 0 := by omega
        simpa using this
      have c3 : (0 : Int) < (m : Int) := by omega
      by_cases hmn : name = m_mn
      · have c5 : (name == [109, 110]) = true := by rw [hmn]; rfl
        have hal : (kindM name).2 = [] := by rw [hmn]; rfl
        cases rest with
        | nil =>
          obtain rfl : m = 1 := hm.symm
          have c6 : (((1 : Nat) : Int) == 1) = true := rfl
          (refine VT_ok hctr (rs := res11) true 300 _ _ _ ?_; simp (maxSteps := 1000000) only [VT, jf, jg, jZ, ja, jd, je, VC, qA, qB, qC, qD, qE, qF, qG, qH, qI, qJ, qK, qL, qM, qN, qO, qP, qQ, qR, qS, qT, qU, qV, qW, qX, qY, qZ, qe, qf, qg, qh, qj, qk, ql, qm, qn, qo, qp, qq, q0t, qu, qv, ev, qw, qy, qz, zA, zB, zC, zD, zE, zF, zG, zH, zI, zJ, TE.sv, zK, zL, zM, ↓reduceIte, reduceCtorEq, Value.oneCell', Nat.reduceEqDiff, Nat.reduceAdd, Nat.reduceLT, Nat.reduceBEq, Nat.reduceSub, Nat.reduceLeDiff, zP, zQ, zR, zS, zT, zU, zV, zW, zX, zY, zZ, za, zb, zc, zd, ze, zf, zg, zh, zi, zj, zk, zl, zm, zn, zo, zp, zq, zr, zt, zu, zw, zx, zy, zz, cE, jA, jB, hap, killE, deadOf, rwE, cD, cO, jC, jD, jE, jF, jG, jH, jI, jJ, jK, jL, jM, jN, jO, jP, jQ, jR, jS, jT, jU, jV, jW, jX, jY, hP, hk, res11, kp11, dP0, rowFrontD, rowBadD, mqS, noS, badM, Int.toNat_natCast, Int.toNat_zero, Int.toNat_one, Nat.mul_one, Nat.zero_mul, Nat.add_zero, Nat.sub_zero, Int.le_refl, Nat.reduceMul, List.drop_zero, c2, c3, c5, c6, wdE, rwE, Mq.zero, List.length_cons, hm, List.map_cons, List.map_nil])
          exact hfin ⟨7, [], false, [], 0, false, m_mn, [], []⟩ n _ (by rw [hdoc, lineM, hal, if_neg (by simp), if_pos ⟨hmn, rfl⟩]) rfl rfl
        | cons y l =>
          have hm : l.length + 1 + 1 = m := hm
          have c6 : ((m : Int) == 1) = false := by
            have : ¬ (m : Int) = 1 := by omega
            simpa using this
          (refine VT_ok hctr (rs := res11) true 300 _ _ _ ?_; simp (maxSteps := 1000000) only [VT, jf, jg, jZ, ja, jd, je, VC, qA, qB, qC, qD, qE, qF, qG, qH, qI, qJ, qK, qL, qM, qN, qO, qP, qQ, qR, qS, qT, qU, qV, qW, qX, qY, qZ, qe, qf, qg, qh, qj, qk, ql, qm, qn, qo, qp, qq, q0t, qu, qv, ev, qw, qy, qz, zA, zB, zC, zD, zE, zF, zG, zH, zI, zJ, TE.sv, zK, zL, zM, ↓reduceIte, reduceCtorEq, Value.oneCell', Nat.reduceEqDiff, Nat.reduceAdd, Nat.reduceLT, Nat.reduceBEq, Nat.reduceSub, Nat.reduceLeDiff, zP, zQ, zR, zS, zT, zU, zV, zW, zX, zY, zZ, za, zb, zc, zd, ze, zf, zg, zh, zi, zj, zk, zl, zm, zn, zo, zp, zq, zr, zt, zu, zw, zx, zy, zz, cE, jA, jB, hap, killE, deadOf, rwE, cD, cO, jC, jD, jE, jF, jG, jH, jI, jJ, jK, jL, jM, jN, jO, jP, jQ, jR, jS, jT, jU, jV, jW, jX, jY, hP, hk, res11, kp11, dP0, rowFrontD, rowBadD, mqS, noS, badM, Int.toNat_natCast, Int.toNat_zero, Int.toNat_one, Nat.mul_one, Nat.zero_mul, Nat.add_zero, Nat.sub_zero, Int.le_refl, Nat.reduceMul, List.drop_zero, c2, c3, c5, c6, wdE, rwE, Mq.zero, List.length_cons, hm, List.map_cons, List.map_nil])
          exact hfin (badM f_unknown 0) n _ (by rw [hdoc, lineM, hal, if_neg (by simp), if_neg (by simp)]) rfl rfl
      · have c5 : (name == [109, 110]) = false := by simpa [m_mn] using hmn
        by_cases hkn : (kindM name).2 = []
        · have hno : name ≠ m_me ∧ name ≠ m_mg ∧ name ≠ m_ms ∧ name ≠ m_md ∧ name ≠ m_ma := by
            refine ⟨?_, ?_, ?_, ?_, ?_⟩ <;> (rintro rfl; revert hkn; decide)
          obtain ⟨o1, o2, o3, o4, o5⟩ := hno
          have n1 : (name == [109, 101]) = false := by simpa [m_me] using o1
          have n2 : (name == [109, 103]) = false := by simpa [m_mg] using o2
          have n3 : (name == [109, 115]) = false := by simpa [m_ms] using o3
          have n4 : (name == [109, 100]) = false := by simpa [m_md] using o4
          have n5 : (name == [109, 97]) = false := by simpa [m_ma] using o5
          (refine VT_ok hctr (rs := res11) true 300 _ _ _ ?_; simp (maxSteps := 1000000) only [VT, jf, jg, jZ, ja, jd, je, VC, qA, qB, qC, qD, qE, qF, qG, qH, qI, qJ, qK, qL, qM, qN, qO, qP, qQ, qR, qS, qT, qU, qV, qW, qX, qY, qZ, qe, qf, qg, qh, qj, qk, ql, qm, qn, qo, qp, qq, q0t, qu, qv, ev, qw, qy, qz, zA, zB, zC, zD, zE, zF, zG, zH, zI, zJ, TE.sv, zK, zL, zM, ↓reduceIte, reduceCtorEq, Value.oneCell', Nat.reduceEqDiff, Nat.reduceAdd, Nat.reduceLT, Nat.reduceBEq, Nat.reduceSub, Nat.reduceLeDiff, zP, zQ, zR, zS, zT, zU, zV, zW, zX, zY, zZ, za, zb, zc, zd, ze, zf, zg, zh, zi, zj, zk, zl, zm, zn, zo, zp, zq, zr, zt, zu, zw, zx, zy, zz, cE, jA, jB, hap, killE, deadOf, rwE, cD, cO, jC, jD, jE, jF, jG, jH, jI, jJ, jK, jL, jM, jN, jO, jP, jQ, jR, jS, jT, jU, jV, jW, jX, jY, hP, hk, res11, kp11, dP0, rowFrontD, rowBadD, mqS, noS, badM, Int.toNat_natCast, Int.toNat_zero, Int.toNat_one, Nat.mul_one, Nat.zero_mul, Nat.add_zero, Nat.sub_zero, Int.le_refl, Nat.reduceMul, List.drop_zero, c2, c3, c5, n1, n2, n3, n4, n5, wdE, rwE, Mq.zero, List.length_cons, hm, List.map_cons, List.map_nil])
          exact hfin (badM f_unknown 0) n _ (by rw [hdoc, lineM, hkn, if_neg (by simp), if_neg (fun h => hmn h.1)]) rfl rfl
        · have hyes : name = m_me ∨ name = m_mg ∨ name = m_ms ∨ name = m_md ∨ name = m_ma := by
            unfold kindM at hkn
            repeat' split at hkn
            all_goals simp_all
          obtain ⟨b1, n1⟩ : ∃ x, (name == [109, 101]) = x := ⟨_, rfl⟩
          obtain ⟨b2, n2⟩ : ∃ x, (name == [109, 103]) = x := ⟨_, rfl⟩
          obtain ⟨b3, n3⟩ : ∃ x, (name == [109, 115]) = x := ⟨_, rfl⟩
          obtain ⟨b4, n4⟩ : ∃ x, (name == [109, 100]) = x := ⟨_, rfl⟩
          obtain ⟨b5, n5⟩ : ∃ x, (name == [109, 97]) = x := ⟨_, rfl⟩
          have hbb : (b1 = true ∧ b2 = false ∧ b3 = false ∧ b4 = false ∧ b5 = false) ∨ (b1 = false ∧ b2 = true ∧ b3 = false ∧ b4 = false ∧ b5 = false) ∨ (b1 = false ∧ b2 = false ∧ b3 = true ∧ b4 = false ∧ b5 = false) ∨ (b1 = false ∧ b2 = false ∧ b3 = false ∧ b4 = true ∧ b5 = false) ∨ (b1 = false ∧ b2 = false ∧ b3 = false ∧ b4 = false ∧ b5 = true) := by
            rw [← n1, ← n2, ← n3, ← n4, ← n5]
            rcases hyes with rfl | rfl | rfl | rfl | rfl <;> decide
          rcases hbb with ⟨rfl, rfl, rfl, rfl, rfl⟩ | ⟨rfl, rfl, rfl, rfl, rfl⟩ | ⟨rfl, rfl, rfl, rfl, rfl⟩ | ⟨rfl, rfl, rfl, rfl, rfl⟩ | ⟨rfl, rfl, rfl, rfl, rfl⟩
          all_goals
            (refine VT_ok hctr (rs := res11) true 300 _ _ _ ?_; simp (maxSteps := 1000000) only [VT, jf, jg, jZ, ja, jd, je, VC, qA, qB, qC, qD, qE, qF, qG, qH, qI, qJ, qK, qL, qM, qN, qO, qP, qQ, qR, qS, qT, qU, qV, qW, qX, qY, qZ, qe, qf, qg, qh, qj, qk, ql, qm, qn, qo, qp, qq, q0t, qu, qv, ev, qw, qy, qz, zA, zB, zC, zD, zE, zF, zG, zH, zI, zJ, TE.sv, zK, zL, zM, ↓reduceIte, reduceCtorEq, Value.oneCell', Nat.reduceEqDiff, Nat.reduceAdd, Nat.reduceLT, Nat.reduceBEq, Nat.reduceSub, Nat.reduceLeDiff, zP, zQ, zR, zS, zT, zU, zV, zW, zX, zY, zZ, za, zb, zc, zd, ze, zf, zg, zh, zi, zj, zk, zl, zm, zn, zo, zp, zq, zr, zt, zu, zw, zx, zy, zz, cE, jA, jB, hap, killE, deadOf, rwE, cD, cO, jC, jD, jE, jF, jG, jH, jI, jJ, jK, jL, jM, jN, jO, jP, jQ, jR, jS, jT, jU, jV, jW, jX, jY, hP, hk, res11, kp11, dP0, rowFrontD, rowBadD, mqS, noS, badM, Int.toNat_natCast, Int.toNat_zero, Int.toNat_one, Nat.mul_one, Nat.zero_mul, Nat.add_zero, Nat.sub_zero, Int.le_refl, Nat.reduceMul, List.drop_zero, c2, c3, c5, n1, n2, n3, n4, n5, wdE, rwE, Mq.zero, List.length_cons, hm, List.map_cons, List.map_nil, hnb, hnb', hn0', List.take_length])
            obtain ⟨xq, used, more, hrm⟩ : ∃ xq used more, readM name rest (b.drop n) = (xq, used, more) := ⟨_, _, _, rfl⟩
            subst hm
            refine Run_hcall rfl (.t [.g (mqZ xq 3), .c (.i .i64 (if more then -1 else used))]) [⟨(26, 0, whole), mqS noS noS Mq.zero, true⟩, ⟨(26, 0, whole), mqS noS noS r, true⟩, wdE (name :: rest), cmE xq, flE xq] (dread_h (C := C) (Nw := 2) (N := 3) (x := (xq, used, more)) hP hEC rfl (by simp [zG]) (fun x hx => ⟨wordsF_ne _ _ x (by rw [hws]; exact hx), by have := wordsF_each _ _ x (by rw [hws]; exact hx); omega⟩) (by have := wordsF_len (s.length + 1) s; rw [hws] at this; simp at this; omega) hkn (by rw [List.length_drop]; omega) hrm (fun q => by simp only [zG]; omega) (by rw [hn0]; exact Nat.zero_le _) rfl rfl (fun q h1 h2 => by match q with | 0 => rfl | 1 => rfl | 2 => rfl | 3 => exact absurd rfl h1 | 4 => exact absurd rfl h2 | _ + 5 => rfl)) (by simp [zG]) (by simp) ?_
            cases more with
            | true =>
              have c7 : decide ((-1 : Int) < 0) = true := rfl
              (refine VT_ok hctr (rs := res11) true 300 _ _ _ ?_; simp (maxSteps := 1000000) only [VT, jf, jg, jZ, ja, jd, je, VC, qA, qB, qC, qD, qE, qF, qG, qH, qI, qJ, qK, qL, qM, qN, qO, qP, qQ, qR, qS, qT, qU, qV, qW, qX, qY, qZ, qe, qf, qg, qh, qj, qk, ql, qm, qn, qo, qp, qq, q0t, qu, qv, ev, qw, qy, qz, zA, zB, zC, zD, zE, zF, zG, zH, zI, zJ, TE.sv, zK, zL, zM, ↓reduceIte, reduceCtorEq, Value.oneCell', Nat.reduceEqDiff, Nat.reduceAdd, Nat.reduceLT, Nat.reduceBEq, Nat.reduceSub, Nat.reduceLeDiff, zP, zQ, zR, zS, zT, zU, zV, zW, zX, zY, zZ, za, zb, zc, zd, ze, zf, zg, zh, zi, zj, zk, zl, zm, zn, zo, zp, zq, zr, zt, zu, zw, zx, zy, zz, cE, jA, jB, hap, killE, deadOf, rwE, cD, cO, jC, jD, jE, jF, jG, jH, jI, jJ, jK, jL, jM, jN, jO, jP, jQ, jR, jS, jT, jU, jV, jW, jX, jY, hP, hk, res11, kp11, dP0, rowFrontD, rowBadD, mqS, noS, badM, Int.toNat_natCast, Int.toNat_zero, Int.toNat_one, Nat.mul_one, Nat.zero_mul, Nat.add_zero, Nat.sub_zero, Int.le_refl, Nat.reduceMul, List.drop_zero, c7, mqZ, Mq.zero, cmE, flE, rwE, wdE, if_true])
              exact hfin Mq.zero 0 _ (by rw [hdoc, lineM, if_pos hkn, hrm]; rfl) rfl rfl
            | false =>
              obtain ⟨_, u0, u1⟩ := readM_pre (r := []) hrm
              have ww : IntKind.i64.wrap ((n : Int) + used) = (n : Int) + used := IntWalk.i64_in _ (by rw [List.length_drop] at u1; omega)
              have c7 : decide (used < 0) = false := decide_eq_false (by omega)
              (refine VT_ok hctr (rs := res11) true 300 _ _ _ ?_; simp (maxSteps := 1000000) only [VT, jf, jg, jZ, ja, jd, je, VC, qA, qB, qC, qD, qE, qF, qG, qH, qI, qJ, qK, qL, qM, qN, qO, qP, qQ, qR, qS, qT, qU, qV, qW, qX, qY, qZ, qe, qf, qg, qh, qj, qk, ql, qm, qn, qo, qp, qq, q0t, qu, qv, ev, qw, qy, qz, zA, zB, zC, zD, zE, zF, zG, zH, zI, zJ, TE.sv, zK, zL, zM, ↓reduceIte, reduceCtorEq, Value.oneCell', Nat.reduceEqDiff, Nat.reduceAdd, Nat.reduceLT, Nat.reduceBEq, Nat.reduceSub, Nat.reduceLeDiff, zP, zQ, zR, zS, zT, zU, zV, zW, zX, zY, zZ, za, zb, zc, zd, ze, zf, zg, zh, zi, zj, zk, zl, zm, zn, zo, zp, zq, zr, zt, zu, zw, zx, zy, zz, cE, jA, jB, hap, killE, deadOf, rwE, cD, cO, jC, jD, jE, jF, jG, jH, jI, jJ, jK, jL, jM, jN, jO, jP, jQ, jR, jS, jT, jU, jV, jW, jX, jY, hP, hk, res11, kp11, dP0, rowFrontD, rowBadD, mqS, noS, badM, Int.toNat_natCast, Int.toNat_zero, Int.toNat_one, Nat.mul_one, Nat.zero_mul, Nat.add_zero, Nat.sub_zero, Int.le_refl, Nat.reduceMul, List.drop_zero, mqZ, Mq.zero, cmE, flE, rwE, wdE, ww, c7, Bool.false_eq_true])
              refine Fin_cx (v := .t [.g (mqZ xq 3), .c (.i .i64 ((n : Int) + used))]) hC hres11 fun ρ w' hw _ _ => ?_
              have hup := hw.up
              rw [hC] at hup
              have k1 := RowOk.of (N := 3) (n := xq.cmds.length) (z := 16) (e := 33) (cells := flatG ecS xq.cmds) hw hS rfl (by decide)
              have k2 := RowOk.of (N := 4) (n := xq.flags.length) (z := 1) (e := 9) (cells := xq.flags.map SC.s) hw hS rfl (by decide)
              rw [hw0] at k1 k2
              rw [ec_den] at k1
              rw [st_den] at k2
              rw [hdoc, lineM, if_pos hkn, hrm]
              refine ⟨hup.to_below, _, rfl, ⟨ρ 3, ρ 4, rfl, k1, k2, fun h3 h4 he => ?_⟩⟩
              have := hw.inj 3 4 (by simp) (by simp) ((deadE_of rfl).2 ⟨by show ¬ ((33 : Nat) = DEAD); decide, h3⟩) ((deadE_of rfl).2 ⟨by show ¬ ((9 : Nat) = DEAD); decide, h4⟩) he
              cases this
end Go.Proofs.YtlaagebdbcmckaaGreatDoor
