/- The document's flags, walked. Printed by gen_edoc4.py. -/
import Derived.Test.YtlaagebdbcmckaaGreatDoorCEdoc3
import Derived.Test.YtlaagebdbcmckaaGreatDoorCEall
namespace Go.Proofs.YtlaagebdbcmckaaGreatDoor
set_option linter.unusedSimpArgs false
set_option linter.unusedVariables false
set_option linter.unusedSimpArgs false
set_option linter.unusedVariables false
set_option maxHeartbeats 8000000
open Go.RowKit
set_option maxRecDepth 100000
theorem darg_h {C : Cx} {nE : Nat} {mk : Nat → Prop} {en en' : List EN} {N : Nat} {c : Cd} {x : UInt8} {s : List UInt8} (hP : C.P = Tryz.prog) (hE : EnvC C) (hl : s.length ≤ 9223372036854775806) (h0 : zD en N = some (enC c true)) (hN : N < nE) (hmk : ∀ q, ¬ mk q) (hen : en' = zE en N (enC (argD c x s).1 true)) :
    HCall C nE mk en en' 67 [.c (.p N 0), .c (.i .u8 x.toNat), .c (.s s)] (.c (.b (argD c x s).2)) :=
  setl_h hP hE h0 hN hmk (fun args w => Tryz.call67 args w) (fun ρ w g hb hu he => darg_w hb x s hl he hu) hen
def allD (allowed : List UInt8) : List (List UInt8) → Cd → List UInt8 → Cd × List UInt8
  | [], c, _ => (c, [])
  | [] :: _, c, _ => (c, f_invalid)
  | (x :: s) :: l, c, seen =>
    if allowed.contains x = false then (c, f_invalid)
    else if seen.contains x then (c, f_twice)
    else if (argD c x s).2 then allD allowed l (argD c x s).1 (seen ++ [x]) else ((argD c x s).1, f_token)
def rowAllowed : List SV → Option (Prop × SV)
  | [.c (.s l)] => some (True, .c (.s (kindM l).2))
  | _ => none
def dB0 : Ctr := fun f en xs => match f with
  | 65 => rowAllowed xs
  | _ => dA0 f en xs
theorem dB0_ok {C : Cx} (hP : C.P = Tryz.prog) : CtrOk C dB0 := by
  intro f en xs p v h hp ρ w hup hHp hHo hinj hwf
  unfold dB0 at h
  split at h
  · rw [hP]
    refine ⟨fun args w => Tryz.call65 args w, ?_⟩
    unfold rowAllowed at h
    split at h <;> simp only [Option.some.injEq, Prod.mk.injEq, reduceCtorEq] at h
    obtain ⟨rfl, rfl⟩ := h
    exact ⟨trivial, dallowed_w _ w⟩
  · exact dA0_ok hP f en xs p v h hp ρ w hup hHp hHo hinj hwf
def AllQ (g : Nat) (w : World) (r : Cd × List UInt8) (e : Ending) (w' : World) : Prop := e = .returned (.string ⟨r.2.toArray⟩) ∧ Upd (One g) w w' ∧ Blk w' g 33 (ecA r.1)
def hd0 (l : List UInt8) : UInt8 := l.headD 0
def slFl (a : Option Addr) (n cap : Nat) (al : List UInt8) (j : Nat) : List (Nat × SV) := [(8, .c (.i .i64 (j : Int))), (7, .c (.s al)), (2, .c (.p 0 0)), (1, .c (.v (.slice a n cap)))]
def slFl2 (a : Option Addr) (n cap : Nat) (al : List UInt8) (j : Nat) (b : UInt8) (k : Nat) : List (Nat × SV) := [(11, .c (.i .i64 (k : Int))), (9, .c (.i .u8 (b.toNat : Int))), (8, .c (.i .i64 (j : Int))), (7, .c (.s al)), (2, .c (.p 0 0)), (1, .c (.v (.slice a n cap)))]
theorem dflags_w {w : World} {g : Nat} {c : Cd} (h : Blk w g 33 (ecA c)) (name : List UInt8) {a : Option Addr} {n cap : Nat} {ws : List (List UInt8)} (hn : n = ws.length) (hraw : RawS w g a ws) (hl : ∀ x ∈ ws, x ≠ [] ∧ x.length ≤ 1000000000) (hlen : n ≤ 1000000000) (hE : Env w) (hEg : ∀ w', Upd (One g) w w' → Env w') :
    Calls Tryz.prog 50 #[.string ⟨name.toArray⟩, .slice a n cap, .pointer (some ⟨g, 0, none⟩)] w (AllQ g w (allD (kindM name).2 ws c [])) := by
  refine calls_of_Run Tryz.func50 rfl kp50 (S := One g) (ρ := fun _ => reOf g) [.c (.s name), .c (.v (.slice a n cap)), .c (.p 0 0)] Tryz.ntmps50 (ec_at h true (One g) (fun _ => rfl)) (by simp [SV.wf, SC.wf]) (by simp) ?_
  intro C hC hP hk
  have hEC : EnvC C := fun w' hu => by rw [hC] at hu; exact hEg w' hu
  have hctr := dB0_ok hP
  obtain ⟨al, hal⟩ : ∃ al, (kindM name).2 = al := ⟨_, rfl⟩
  have hall8 : al.length ≤ 9223372036854775806 := by
    rw [← hal]; unfold kindM; repeat' split
    all_goals simp
  have fin : ∀ c2 l en, (allD al ws c []).2 = l → (allD al ws c []).1 = c2 → en = [enC c2 true] → Fin C res50 (.c (.s l)) en := fun c2 l en hv hc he => by
    subst hv; subst hc; subst he
    refine Fin_cx hC hres50 fun ρ w' hw _ _ => ?_
    have hb := ec_blk hw rfl (by rw [hC]; exact Nat.zero_lt_one) (by rw [hC]; rfl)
    have hup := hw.up
    rw [hC] at hup
    rw [hal]
    exact ⟨rfl, hup, hb⟩
  (refine VT_ok hctr (rs := res50) true 300 _ _ _ ?_; simp (maxSteps := 1000000) only [VT, jf, jg, jZ, ja, jd, je, VC, qA, qB, qC, qD, qE, qF, qG, qH, qI, qJ, qK, qL, qM, qN, qO, qP, qQ, qR, qS, qT, qU, qV, qW, qX, qY, qZ, qe, qf, qg, qh, qj, qk, ql, qm, qn, qo, qp, qq, q0t, qu, qv, ev, qw, qy, qz, zA, zB, zC, zD, zE, zF, zG, zH, zI, zJ, TE.sv, zK, zL, zM, ↓reduceIte, reduceCtorEq, Value.oneCell', Nat.reduceEqDiff, Nat.reduceAdd, Nat.reduceLT, Nat.reduceBEq, Nat.reduceSub, Nat.reduceLeDiff, zP, zQ, zR, zS, zT, zU, zV, zW, zX, zY, zZ, za, zb, zc, zd, ze, zf, zg, zh, zi, zj, zk, zl, zm, zn, zo, zp, zq, zr, zt, zu, zw, zx, zy, zz, cE, jA, jB, hap, killE, deadOf, rwE, cD, cO, jC, jD, jE, jF, jG, jH, jI, jJ, jK, jL, jM, jN, jO, jP, jQ, jR, jS, jT, jU, jV, jW, jX, jY, hP, hk, res50, kp50, dB0, rowAllowed, enC, ecS, hal])
  refine Run_loopP (ι := { y : Nat × Cd // y.1 ≤ n ∧ allD al (ws.drop y.1) y.2 ((ws.take y.1).map hd0) = allD al ws c [] }) (fun y => slFl a n cap al y.1.1) (fun y => [enC y.1.2 true]) (fun y => n + 1 - y.1.1) ⟨(0, c), Nat.zero_le _, rfl⟩ (sub_mk ⟨rfl, rfl, rfl, rfl, trivial⟩) rfl ?_
  rintro ⟨⟨j, c1⟩, hj, hall⟩ D dP dS dw dn dr dk ddf dPan dRet hX hJ
  have hP0 := hP; have hk0 := hk; have hctr0 := hctr
  have hP : D.P = Tryz.prog := by rw [dP]; exact hP0
  have hk : D.kp = kp50 := by rw [dk]; exact hk0
  have hED : EnvC D := by unfold EnvC; rw [dS, dw]; exact hEC
  have hctr : CtrOk D dB0 := dB0_ok hP
  simp only at hj hall
  have dFin : ∀ c2 l en, (allD al ws c []).2 = l → (allD al ws c []).1 = c2 → en = [enC c2 true] → Fin D res50 (.c (.s l)) en := fun c2 l en hv hc he ρ a w' hw hn hwf hd hr => dRet _ _ (fin c2 l en hv hc he ρ a w' (hw.toC dS.symm dw.symm dr.symm dn.symm) (by rw [← dn]; exact hn) hwf (hd.trans ddf) (fun fn h => by rw [← dP]; exact hr fn h))
  show Run D _ _ (slFl a n cap al j) [enC c1 true]
  by_cases hjn : j < n
  · obtain ⟨x, hx⟩ : ∃ x, ws[j]? = some x := ⟨_, List.getElem?_eq_getElem (by omega)⟩
    obtain ⟨hx0, hxl⟩ := hl x (List.mem_of_getElem? hx)
    obtain ⟨b, t, rfl⟩ : ∃ b t, x = b :: t := by cases x with | nil => exact absurd rfl hx0 | cons b t => exact ⟨b, t, rfl⟩
    obtain ⟨b0, o, rfl, hr⟩ := hraw.rd (D := D) (by rw [dS, hC]; exact fun k hk => hk) (by rw [dw, hC]; rfl) hx
    have p3 : IntKind.i64.wrap ((j : Int) + 1) = ((j + 1 : Nat) : Int) := by rw [IntWalk.i64_in _ (by omega)]; rfl
    have q1 : decide ((j : Int) < ((n : Nat) : Int)) = true := decide_eq_true (by omega)
    have p0 : (0 : Int) ≤ (j : Int) := by omega
    have p1 : (j : Int) < ((n : Nat) : Int) := by omega
    have hdr : ws.drop j = (b :: t) :: ws.drop (j + 1) := by
      rw [List.drop_eq_getElem_cons (by omega)]; congr 1
      exact (List.getElem?_eq_some_iff.1 hx).2
    have htk : (ws.take (j + 1)).map hd0 = (ws.take j).map hd0 ++ [b] := by rw [List.take_add_one, hx]; simp [hd0]
    rw [hdr, allD] at hall
    have g0 : (0 : Int) ≤ 0 := by decide
    have g1 : (0 : Int) < ((t.length + 1 : Nat) : Int) := by omega
    have g2 : List.length (b :: t : List UInt8) = t.length + 1 := rfl
    have hgd : (b :: t : List UInt8).getD 0 0 = b := rfl
    have hsd : List.drop 1 (List.take (t.length + 1) (b :: t)) = t := by simp
    have b1 : (0 : Int) ≤ (b.toNat : Int) := by omega
    have b2 : (b.toNat : Int) < 256 := by have := b.toNat_lt; omega
    cases ha : al.contains b with
    | false =>
      rw [if_pos ha] at hall
      (refine VT_ok hctr (rs := res50) true 300 _ _ _ ?_; simp (maxSteps := 1000000) only [VT, jf, jg, jZ, ja, jd, je, VC, qA, qB, qC, qD, qE, qF, qG, qH, qI, qJ, qK, qL, qM, qN, qO, qP, qQ, qR, qS, qT, qU, qV, qW, qX, qY, qZ, qe, qf, qg, qh, qj, qk, ql, qm, qn, qo, qp, qq, q0t, qu, qv, ev, qw, qy, qz, zA, zB, zC, zD, zE, zF, zG, zH, zI, zJ, TE.sv, zK, zL, zM, ↓reduceIte, reduceCtorEq, Value.oneCell', Nat.reduceEqDiff, Nat.reduceAdd, Nat.reduceLT, Nat.reduceBEq, Nat.reduceSub, Nat.reduceLeDiff, zP, zQ, zR, zS, zT, zU, zV, zW, zX, zY, zZ, za, zb, zc, zd, ze, zf, zg, zh, zi, zj, zk, zl, zm, zn, zo, zp, zq, zr, zt, zu, zw, zx, zy, zz, cE, jA, jB, hap, killE, deadOf, rwE, cD, cO, jC, jD, jE, jF, jG, jH, jI, jJ, jK, jL, jM, jN, jO, jP, jQ, jR, jS, jT, jU, jV, jW, jX, jY, hP, hk, res50, kp50, dB0, dA0, dG0, hsd, rowHasD, enC, ecS, slFl, slFl2, q1, hr, p0, p1, p3, g0, g1, g2, hgd, b1, b2, hall8, Int.toNat_natCast, Int.toNat_zero, Int.toNat_one, Nat.mul_one, UInt8.ofNat_toNat, List.drop_succ_cons, List.drop_zero, ha, Bool.not_false])
      exact dFin c1 _ _ (by rw [← hall]; rfl) (by rw [← hall]) rfl
    | true =>
      rw [if_neg (by rw [ha]; simp)] at hall
      (refine VT_ok hctr (rs := res50) true 300 _ _ _ ?_; simp (maxSteps := 1000000) only [VT, jf, jg, jZ, ja, jd, je, VC, qA, qB, qC, qD, qE, qF, qG, qH, qI, qJ, qK, qL, qM, qN, qO, qP, qQ, qR, qS, qT, qU, qV, qW, qX, qY, qZ, qe, qf, qg, qh, qj, qk, ql, qm, qn, qo, qp, qq, q0t, qu, qv, ev, qw, qy, qz, zA, zB, zC, zD, zE, zF, zG, zH, zI, zJ, TE.sv, zK, zL, zM, ↓reduceIte, reduceCtorEq, Value.oneCell', Nat.reduceEqDiff, Nat.reduceAdd, Nat.reduceLT, Nat.reduceBEq, Nat.reduceSub, Nat.reduceLeDiff, zP, zQ, zR, zS, zT, zU, zV, zW, zX, zY, zZ, za, zb, zc, zd, ze, zf, zg, zh, zi, zj, zk, zl, zm, zn, zo, zp, zq, zr, zt, zu, zw, zx, zy, zz, cE, jA, jB, hap, killE, deadOf, rwE, cD, cO, jC, jD, jE, jF, jG, jH, jI, jJ, jK, jL, jM, jN, jO, jP, jQ, jR, jS, jT, jU, jV, jW, jX, jY, hP, hk, res50, kp50, dB0, dA0, dG0, hsd, rowHasD, enC, ecS, slFl, slFl2, q1, hr, p0, p1, p3, g0, g1, g2, hgd, b1, b2, hall8, Int.toNat_natCast, Int.toNat_zero, Int.toNat_one, Nat.mul_one, UInt8.ofNat_toNat, List.drop_succ_cons, List.drop_zero, ha, Bool.not_true])
      refine Run_loopP (ι := { k : Nat // k ≤ j ∧ ∀ y ∈ (ws.take k).map hd0, y ≠ b }) (fun k => slFl2 (some ⟨b0, o, none⟩) n cap al j b k.1) (fun _ => [enC c1 true]) (fun k => j + 1 - k.1) ⟨0, Nat.zero_le _, by simp⟩ (sub_mk ⟨rfl, rfl, rfl, rfl, rfl, rfl, trivial⟩) rfl ?_
      rintro ⟨k, hk1, hne⟩ D2 dP2 dS2 dw2 dn2 dr2 dk2 ddf2 dPan2 dRet2 hX2 hJ2
      have hP1 := hP; have hk2 := hk; have hctr1 := hctr
      have hP : D2.P = Tryz.prog := by rw [dP2]; exact hP1
      have hk : D2.kp = kp50 := by rw [dk2]; exact hk2
      have hctr : CtrOk D2 dB0 := dB0_ok hP
      have d2Fin : ∀ c2 l en, (allD al ws c []).2 = l → (allD al ws c []).1 = c2 → en = [enC c2 true] → Fin D2 res50 (.c (.s l)) en := fun c2 l en hv hc he ρ a w' hw hn hwf hd hr => dRet2 _ _ (dFin c2 l en hv hc he ρ a w' (hw.toC dS2.symm dw2.symm dr2.symm dn2.symm) (by rw [← dn2]; exact hn) hwf (hd.trans ddf2) (fun fn h => by rw [← dP2]; exact hr fn h))
      show Run D2 _ _ (slFl2 (some ⟨b0, o, none⟩) n cap al j b k) [enC c1 true]
      by_cases hkj : k < j
      · obtain ⟨y, hy⟩ : ∃ y, ws[k]? = some y := ⟨_, List.getElem?_eq_getElem (by omega)⟩
        obtain ⟨hy0, _⟩ := hl y (List.mem_of_getElem? hy)
        obtain ⟨b', t', rfl⟩ : ∃ b t, y = b :: t := by cases y with | nil => exact absurd rfl hy0 | cons b t => exact ⟨b, t, rfl⟩
        obtain ⟨b1', o', hbo, hr2⟩ := hraw.rd (D := D2) (by rw [dS2, dS, hC]; exact fun k hk => hk) (by rw [dw2, dw, hC]; rfl) hy
        simp only [Option.some.injEq, Addr.mk.injEq, and_true] at hbo
        obtain ⟨rfl, rfl⟩ := hbo
        have q2 : decide ((k : Int) < (j : Int)) = true := decide_eq_true (by omega)
        have s0 : (0 : Int) ≤ (k : Int) := by omega
        have s1 : (k : Int) < ((n : Nat) : Int) := by omega
        have s3 : IntKind.i64.wrap ((k : Int) + 1) = ((k + 1 : Nat) : Int) := by rw [IntWalk.i64_in _ (by omega)]; rfl
        have r1 : (0 : Int) < ((t'.length + 1 : Nat) : Int) := by omega
        have r2 : List.length (b' :: t' : List UInt8) = t'.length + 1 := rfl
        have rgd : (b' :: t' : List UInt8).getD 0 0 = b' := rfl
        have htk2 : (ws.take (k + 1)).map hd0 = (ws.take k).map hd0 ++ [b'] := by rw [List.take_add_one, hy]; simp [hd0]
        by_cases hbb : b' = b
        · have e0 : ((b'.toNat : Int) == (b.toNat : Int)) = true := by rw [hbb]; simp
          have hmem : ((ws.take j).map hd0).contains b = true := by
            rw [List.contains_iff_mem, List.mem_map]
            refine ⟨b' :: t', ?_, hbb⟩
            refine List.mem_of_getElem? (i := k) ?_
            rw [List.getElem?_take_of_lt hkj]; exact hy
          rw [if_pos hmem] at hall
          (refine VT_ok hctr (rs := res50) true 300 _ _ _ ?_; simp (maxSteps := 1000000) only [VT, jf, jg, jZ, ja, jd, je, VC, qA, qB, qC, qD, qE, qF, qG, qH, qI, qJ, qK, qL, qM, qN, qO, qP, qQ, qR, qS, qT, qU, qV, qW, qX, qY, qZ, qe, qf, qg, qh, qj, qk, ql, qm, qn, qo, qp, qq, q0t, qu, qv, ev, qw, qy, qz, zA, zB, zC, zD, zE, zF, zG, zH, zI, zJ, TE.sv, zK, zL, zM, ↓reduceIte, reduceCtorEq, Value.oneCell', Nat.reduceEqDiff, Nat.reduceAdd, Nat.reduceLT, Nat.reduceBEq, Nat.reduceSub, Nat.reduceLeDiff, zP, zQ, zR, zS, zT, zU, zV, zW, zX, zY, zZ, za, zb, zc, zd, ze, zf, zg, zh, zi, zj, zk, zl, zm, zn, zo, zp, zq, zr, zt, zu, zw, zx, zy, zz, cE, jA, jB, hap, killE, deadOf, rwE, cD, cO, jC, jD, jE, jF, jG, jH, jI, jJ, jK, jL, jM, jN, jO, jP, jQ, jR, jS, jT, jU, jV, jW, jX, jY, hP, hk, res50, kp50, dB0, dA0, dG0, hsd, rowHasD, enC, ecS, slFl, slFl2, q1, hr, p0, p1, p3, g0, g1, g2, hgd, b1, b2, hall8, Int.toNat_natCast, Int.toNat_zero, Int.toNat_one, Nat.mul_one, UInt8.ofNat_toNat, List.drop_succ_cons, List.drop_zero, ha, q2, s0, s1, s3, hr2, r1, r2, rgd, e0])
          exact d2Fin c1 _ _ (by rw [← hall]; rfl) (by rw [← hall]) rfl
        · have e0 : ((b'.toNat : Int) == (b.toNat : Int)) = false := by
            rw [beq_eq_false_iff_ne]; intro h; exact hbb (UInt8.toNat_inj.1 (by omega))
          (refine VT_ok hctr (rs := res50) true 300 _ _ _ ?_; simp (maxSteps := 1000000) only [VT, jf, jg, jZ, ja, jd, je, VC, qA, qB, qC, qD, qE, qF, qG, qH, qI, qJ, qK, qL, qM, qN, qO, qP, qQ, qR, qS, qT, qU, qV, qW, qX, qY, qZ, qe, qf, qg, qh, qj, qk, ql, qm, qn, qo, qp, qq, q0t, qu, qv, ev, qw, qy, qz, zA, zB, zC, zD, zE, zF, zG, zH, zI, zJ, TE.sv, zK, zL, zM, ↓reduceIte, reduceCtorEq, Value.oneCell', Nat.reduceEqDiff, Nat.reduceAdd, Nat.reduceLT, Nat.reduceBEq, Nat.reduceSub, Nat.reduceLeDiff, zP, zQ, zR, zS, zT, zU, zV, zW, zX, zY, zZ, za, zb, zc, zd, ze, zf, zg, zh, zi, zj, zk, zl, zm, zn, zo, zp, zq, zr, zt, zu, zw, zx, zy, zz, cE, jA, jB, hap, killE, deadOf, rwE, cD, cO, jC, jD, jE, jF, jG, jH, jI, jJ, jK, jL, jM, jN, jO, jP, jQ, jR, jS, jT, jU, jV, jW, jX, jY, hP, hk, res50, kp50, dB0, dA0, dG0, hsd, rowHasD, enC, ecS, slFl, slFl2, q1, hr, p0, p1, p3, g0, g1, g2, hgd, b1, b2, hall8, Int.toNat_natCast, Int.toNat_zero, Int.toNat_one, Nat.mul_one, UInt8.ofNat_toNat, List.drop_succ_cons, List.drop_zero, ha, q2, s0, s1, s3, hr2, r1, r2, rgd, e0])
          refine hJ2 ⟨k + 1, by omega, fun z hz => ?_⟩ _ (by show j + 1 - (k + 1) < j + 1 - k; omega) (sub_mk ⟨rfl, rfl, rfl, rfl, rfl, rfl, trivial⟩)
          rw [htk2] at hz
          rcases List.mem_append.1 hz with hz | hz
          · exact hne z hz
          · rw [List.mem_singleton.1 hz]; exact hbb
      · have q2 : decide ((k : Int) < (j : Int)) = false := decide_eq_false (by omega)
        have hkj' : k = j := by omega
        subst hkj'
        (refine VT_ok hctr (rs := res50) true 300 _ _ _ ?_; simp (maxSteps := 1000000) only [VT, jf, jg, jZ, ja, jd, je, VC, qA, qB, qC, qD, qE, qF, qG, qH, qI, qJ, qK, qL, qM, qN, qO, qP, qQ, qR, qS, qT, qU, qV, qW, qX, qY, qZ, qe, qf, qg, qh, qj, qk, ql, qm, qn, qo, qp, qq, q0t, qu, qv, ev, qw, qy, qz, zA, zB, zC, zD, zE, zF, zG, zH, zI, zJ, TE.sv, zK, zL, zM, ↓reduceIte, reduceCtorEq, Value.oneCell', Nat.reduceEqDiff, Nat.reduceAdd, Nat.reduceLT, Nat.reduceBEq, Nat.reduceSub, Nat.reduceLeDiff, zP, zQ, zR, zS, zT, zU, zV, zW, zX, zY, zZ, za, zb, zc, zd, ze, zf, zg, zh, zi, zj, zk, zl, zm, zn, zo, zp, zq, zr, zt, zu, zw, zx, zy, zz, cE, jA, jB, hap, killE, deadOf, rwE, cD, cO, jC, jD, jE, jF, jG, jH, jI, jJ, jK, jL, jM, jN, jO, jP, jQ, jR, jS, jT, jU, jV, jW, jX, jY, hP, hk, res50, kp50, dB0, dA0, dG0, hsd, rowHasD, enC, ecS, slFl, slFl2, q1, hr, p0, p1, p3, g0, g1, g2, hgd, b1, b2, hall8, Int.toNat_natCast, Int.toNat_zero, Int.toNat_one, Nat.mul_one, UInt8.ofNat_toNat, List.drop_succ_cons, List.drop_zero, ha, q2])
        refine hX2 rfl rfl ?_
        have hP := hP1; have hk := hk2; have hctr := hctr1
        have hs : ((ws.take k).map hd0).contains b = false := by
          rw [Bool.eq_false_iff]; intro hc
          exact hne b (List.contains_iff_mem.1 hc) rfl
        rw [if_neg (by rw [hs]; simp)] at hall
        (refine VT_ok hctr (rs := res50) true 300 _ _ _ ?_; simp (maxSteps := 1000000) only [VT, jf, jg, jZ, ja, jd, je, VC, qA, qB, qC, qD, qE, qF, qG, qH, qI, qJ, qK, qL, qM, qN, qO, qP, qQ, qR, qS, qT, qU, qV, qW, qX, qY, qZ, qe, qf, qg, qh, qj, qk, ql, qm, qn, qo, qp, qq, q0t, qu, qv, ev, qw, qy, qz, zA, zB, zC, zD, zE, zF, zG, zH, zI, zJ, TE.sv, zK, zL, zM, ↓reduceIte, reduceCtorEq, Value.oneCell', Nat.reduceEqDiff, Nat.reduceAdd, Nat.reduceLT, Nat.reduceBEq, Nat.reduceSub, Nat.reduceLeDiff, zP, zQ, zR, zS, zT, zU, zV, zW, zX, zY, zZ, za, zb, zc, zd, ze, zf, zg, zh, zi, zj, zk, zl, zm, zn, zo, zp, zq, zr, zt, zu, zw, zx, zy, zz, cE, jA, jB, hap, killE, deadOf, rwE, cD, cO, jC, jD, jE, jF, jG, jH, jI, jJ, jK, jL, jM, jN, jO, jP, jQ, jR, jS, jT, jU, jV, jW, jX, jY, hP, hk, res50, kp50, dB0, dA0, dG0, hsd, rowHasD, enC, ecS, slFl, slFl2, q1, hr, p0, p1, p3, g0, g1, g2, hgd, b1, b2, hall8, Int.toNat_natCast, Int.toNat_zero, Int.toNat_one, Nat.mul_one, UInt8.ofNat_toNat, List.drop_succ_cons, List.drop_zero, ha])
        refine ⟨by omega, ?_⟩
        refine Run_hcall rfl (.c (.b (argD c1 b t).2)) _ (darg_h (C := D) hP hED (N := 0) (c := c1) (x := b) (s := t) (by simp only [List.length_cons] at hxl; omega) rfl (by simp [zG]) (fun q hq => by simp only [zG, zE] at hq; omega) rfl) (by simp [zG, zE]) (by simp) ?_
        cases hb : (argD c1 b t).2 with
        | false =>
          rw [if_neg (by rw [hb]; simp)] at hall
          (refine VT_ok hctr (rs := res50) true 300 _ _ _ ?_; simp (maxSteps := 1000000) only [VT, jf, jg, jZ, ja, jd, je, VC, qA, qB, qC, qD, qE, qF, qG, qH, qI, qJ, qK, qL, qM, qN, qO, qP, qQ, qR, qS, qT, qU, qV, qW, qX, qY, qZ, qe, qf, qg, qh, qj, qk, ql, qm, qn, qo, qp, qq, q0t, qu, qv, ev, qw, qy, qz, zA, zB, zC, zD, zE, zF, zG, zH, zI, zJ, TE.sv, zK, zL, zM, ↓reduceIte, reduceCtorEq, Value.oneCell', Nat.reduceEqDiff, Nat.reduceAdd, Nat.reduceLT, Nat.reduceBEq, Nat.reduceSub, Nat.reduceLeDiff, zP, zQ, zR, zS, zT, zU, zV, zW, zX, zY, zZ, za, zb, zc, zd, ze, zf, zg, zh, zi, zj, zk, zl, zm, zn, zo, zp, zq, zr, zt, zu, zw, zx, zy, zz, cE, jA, jB, hap, killE, deadOf, rwE, cD, cO, jC, jD, jE, jF, jG, jH, jI, jJ, jK, jL, jM, jN, jO, jP, jQ, jR, jS, jT, jU, jV, jW, jX, jY, hP, hk, res50, kp50, dB0, dA0, dG0, hsd, rowHasD, enC, ecS, slFl, slFl2, q1, hr, p0, p1, p3, g0, g1, g2, hgd, b1, b2, hall8, Int.toNat_natCast, Int.toNat_zero, Int.toNat_one, Nat.mul_one, UInt8.ofNat_toNat, List.drop_succ_cons, List.drop_zero, ha, zE, hb, Bool.not_false])
          exact dFin (argD c1 b t).1 _ _ (by rw [← hall]; rfl) (by rw [← hall]) rfl
        | true =>
          rw [if_pos hb] at hall
          (refine VT_ok hctr (rs := res50) true 300 _ _ _ ?_; simp (maxSteps := 1000000) only [VT, jf, jg, jZ, ja, jd, je, VC, qA, qB, qC, qD, qE, qF, qG, qH, qI, qJ, qK, qL, qM, qN, qO, qP, qQ, qR, qS, qT, qU, qV, qW, qX, qY, qZ, qe, qf, qg, qh, qj, qk, ql, qm, qn, qo, qp, qq, q0t, qu, qv, ev, qw, qy, qz, zA, zB, zC, zD, zE, zF, zG, zH, zI, zJ, TE.sv, zK, zL, zM, ↓reduceIte, reduceCtorEq, Value.oneCell', Nat.reduceEqDiff, Nat.reduceAdd, Nat.reduceLT, Nat.reduceBEq, Nat.reduceSub, Nat.reduceLeDiff, zP, zQ, zR, zS, zT, zU, zV, zW, zX, zY, zZ, za, zb, zc, zd, ze, zf, zg, zh, zi, zj, zk, zl, zm, zn, zo, zp, zq, zr, zt, zu, zw, zx, zy, zz, cE, jA, jB, hap, killE, deadOf, rwE, cD, cO, jC, jD, jE, jF, jG, jH, jI, jJ, jK, jL, jM, jN, jO, jP, jQ, jR, jS, jT, jU, jV, jW, jX, jY, hP, hk, res50, kp50, dB0, dA0, dG0, hsd, rowHasD, enC, ecS, slFl, slFl2, q1, hr, p0, p1, p3, g0, g1, g2, hgd, b1, b2, hall8, Int.toNat_natCast, Int.toNat_zero, Int.toNat_one, Nat.mul_one, UInt8.ofNat_toNat, List.drop_succ_cons, List.drop_zero, ha, zE, hb, Bool.not_true])
          exact hJ ⟨(k + 1, (argD c1 b t).1), by simp only; omega, by simp only; rw [htk]; exact hall⟩ _ (by show n + 1 - (k + 1) < n + 1 - k; omega) (sub_mk ⟨rfl, rfl, rfl, rfl, trivial⟩)
  · have q1 : decide ((j : Int) < ((n : Nat) : Int)) = false := decide_eq_false (by omega)
    (refine VT_ok hctr (rs := res50) true 300 _ _ _ ?_; simp (maxSteps := 1000000) only [VT, jf, jg, jZ, ja, jd, je, VC, qA, qB, qC, qD, qE, qF, qG, qH, qI, qJ, qK, qL, qM, qN, qO, qP, qQ, qR, qS, qT, qU, qV, qW, qX, qY, qZ, qe, qf, qg, qh, qj, qk, ql, qm, qn, qo, qp, qq, q0t, qu, qv, ev, qw, qy, qz, zA, zB, zC, zD, zE, zF, zG, zH, zI, zJ, TE.sv, zK, zL, zM, ↓reduceIte, reduceCtorEq, Value.oneCell', Nat.reduceEqDiff, Nat.reduceAdd, Nat.reduceLT, Nat.reduceBEq, Nat.reduceSub, Nat.reduceLeDiff, zP, zQ, zR, zS, zT, zU, zV, zW, zX, zY, zZ, za, zb, zc, zd, ze, zf, zg, zh, zi, zj, zk, zl, zm, zn, zo, zp, zq, zr, zt, zu, zw, zx, zy, zz, cE, jA, jB, hap, killE, deadOf, rwE, cD, cO, jC, jD, jE, jF, jG, jH, jI, jJ, jK, jL, jM, jN, jO, jP, jQ, jR, jS, jT, jU, jV, jW, jX, jY, hP, hk, res50, kp50, dB0, enC, ecS, slFl, q1])
    refine hX rfl rfl ?_
    have hP := hP0; have hk := hk0; have hctr := hctr0
    (refine VT_ok hctr (rs := res50) true 300 _ _ _ ?_; simp (maxSteps := 1000000) only [VT, jf, jg, jZ, ja, jd, je, VC, qA, qB, qC, qD, qE, qF, qG, qH, qI, qJ, qK, qL, qM, qN, qO, qP, qQ, qR, qS, qT, qU, qV, qW, qX, qY, qZ, qe, qf, qg, qh, qj, qk, ql, qm, qn, qo, qp, qq, q0t, qu, qv, ev, qw, qy, qz, zA, zB, zC, zD, zE, zF, zG, zH, zI, zJ, TE.sv, zK, zL, zM, ↓reduceIte, reduceCtorEq, Value.oneCell', Nat.reduceEqDiff, Nat.reduceAdd, Nat.reduceLT, Nat.reduceBEq, Nat.reduceSub, Nat.reduceLeDiff, zP, zQ, zR, zS, zT, zU, zV, zW, zX, zY, zZ, za, zb, zc, zd, ze, zf, zg, zh, zi, zj, zk, zl, zm, zn, zo, zp, zq, zr, zt, zu, zw, zx, zy, zz, cE, jA, jB, hap, killE, deadOf, rwE, cD, cO, jC, jD, jE, jF, jG, jH, jI, jJ, jK, jL, jM, jN, jO, jP, jQ, jR, jS, jT, jU, jV, jW, jX, jY, hP, hk, res50, kp50, dB0, enC, ecS, slFl, q1])
    rw [List.drop_of_length_le (by omega), allD] at hall
    exact fin c1 _ _ (by rw [← hall]) (by rw [← hall]) rfl
end Go.Proofs.YtlaagebdbcmckaaGreatDoor
