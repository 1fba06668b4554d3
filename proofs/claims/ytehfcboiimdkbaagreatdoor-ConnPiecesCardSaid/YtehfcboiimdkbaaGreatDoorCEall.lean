/- meta.all, walked. Printed by gen_eall.py. -/
import Derived.Test.YtehfcboiimdkbaaGreatDoorCEset
namespace Go.Proofs.YtehfcboiimdkbaaGreatDoor
set_option linter.unusedSimpArgs false
set_option linter.unusedVariables false
set_option linter.unusedSimpArgs false
set_option linter.unusedVariables false
set_option maxHeartbeats 8000000
open Go.RowKit
set_option maxRecDepth 100000
def RawS (w : World) (g : Nat) (a : Option Addr) (ws : List (List UInt8)) : Prop :=
  ∀ (k : Nat) x, ws[k]? = some x → ∃ b o, a = some ⟨b, o, none⟩ ∧ b < w.heap.size ∧ b ≠ g ∧ w.cell? ⟨b, o + k, none⟩ = some (.string ⟨x.toArray⟩)
theorem RawS.rd {w : World} {g : Nat} {a : Option Addr} {ws : List (List UInt8)} (h : RawS w g a ws) {D : Cx} (hS : ∀ k, D.S k → k = g) (hw : D.w0 = w) {k : Nat} {x : List UInt8} (hx : ws[k]? = some x) : ∃ b o, a = some ⟨b, o, none⟩ ∧ D.rd b (o + k) 1 = some [.s x] := by
  obtain ⟨b, o, ha, hb, hg, hc⟩ := h k x hx
  refine ⟨b, o, ha, rd_of (vs := [.string ⟨x.toArray⟩]) ?_ rfl⟩
  intro w' hu j v hv
  have hj : j = 0 := by have := (List.getElem?_eq_some_iff.1 hv).1; simp at this; exact this
  subst hj
  rw [hw] at hu
  simp only [List.getElem?_cons_zero, Option.some.injEq] at hv
  rw [← hv]
  exact (hu.cell (p := ⟨b, o + k, none⟩) hb (fun hs => hg (hS _ hs))).trans hc
theorem RawS.upd {w w' : World} {g : Nat} {a : Option Addr} {ws : List (List UInt8)} (h : RawS w g a ws) (hu : Upd (One g) w w') : RawS w' g a ws := by
  intro k x hx
  obtain ⟨b, o, ha, hb, hg, hc⟩ := h k x hx
  exact ⟨b, o, ha, Nat.lt_of_lt_of_le hb hu.size, hg, (hu.cell (p := ⟨b, o + k, none⟩) hb (fun hs => hg hs)).trans hc⟩
theorem mset_h {C : Cx} {nE : Nat} {mk : Nat → Prop} {en en' : List EN} {N : Nat} {c : Cd} {x : UInt8} {s : List UInt8} (hP : C.P = Tryz.prog) (hE : EnvC C) (hl : s.length ≤ 9223372036854775807) (h0 : zD en N = some (enC c true)) (hN : N < nE) (hmk : ∀ q, ¬ mk q) (hen : en' = zE en N (enC (setM c x s).1 true)) :
    HCall C nE mk en en' 67 [.c (.p N 0), .c (.i .u8 x.toNat), .c (.s s)] (.c (.b (setM c x s).2)) :=
  setl_h hP hE h0 hN hmk (fun args w => Tryz.call67 args w) (fun ρ w g hb hu he => mset_w hb x s hl he hu) hen
theorem con_ib (l : List UInt8) (x : UInt8) : decide (0 ≤ Lib.indexByte l x) = l.contains x := by
  induction l with
  | nil => rfl
  | cons b l ih =>
    by_cases hb : b = x
    · subst hb; simp [Lib.indexByte]
    · have h2 : (b == x) = false := by simpa using hb
      have h3 : (x == b) = false := by simpa using fun e => hb (Eq.symm e)
      rw [List.contains_cons, h3, Bool.false_or, ← ih]
      simp only [Lib.indexByte, h2]
      have := Lib.indexByte_ge l x
      by_cases h0 : 0 ≤ Lib.indexByte l x
      · simp [h0]; try omega
      · have : Lib.indexByte l x = -1 := by omega
        simp [this]
def AllP (g : Nat) (w : World) (r : Cd × List UInt8 × List UInt8) (e : Ending) (w' : World) : Prop := e = .returned (.tuple #[.string ⟨r.2.1.toArray⟩, .bool (r.2.2.contains 98), .bool (r.2.2.contains 113)]) ∧ Upd (One g) w w' ∧ Blk w' g 54 (ecA r.1)
def slAll (a : Option Addr) (n cap : Nat) (allowed : List UInt8) (j : Nat) (seen : List UInt8) : List (Nat × SV) := [(14, .c (.i .i64 (j : Int))), (13, .c (.i .i64 (n : Int))), (12, .c (.v (.slice a n cap))), (9, .c (.s seen)), (0, .c (.p 0 0)), (1, .c (.s allowed))]
theorem all_w {w : World} {g : Nat} {c : Cd} (h : Blk w g 54 (ecA c)) (allowed : List UInt8) {a : Option Addr} {n cap : Nat} {ws : List (List UInt8)} (hn : n = ws.length) (hraw : RawS w g a ws) (hl : ∀ x ∈ ws, x ≠ [] ∧ x.length ≤ 100000) (hlen : n ≤ 100000) (hE : Env w) (hEg : ∀ w', Upd (One g) w w' → Env w') :
    Calls Tryz.prog 49 #[.pointer (some ⟨g, 0, none⟩), .string ⟨allowed.toArray⟩, .slice a n cap] w (AllP g w (allM allowed ws c [])) := by
  refine calls_of_Run Tryz.func49 rfl kp49 (S := One g) (ρ := fun _ => reOf g) [.c (.p 0 0), .c (.s allowed), .c (.v (.slice a n cap))] Tryz.ntmps49 (ec_at h true (One g) (fun _ => rfl)) (by simp [SV.wf, SC.wf]) (by simp) ?_
  intro C hC hP hk
  have hEC : EnvC C := fun w' hu => by rw [hC] at hu; exact hEg w' hu
  have hctr := eC0_ok hP hEC
  (refine VT_ok hctr (rs := res49) true 300 _ _ _ ?_; simp (maxSteps := 1000000) only [VT, jf, jg, jZ, ja, jd, je, VC, qA, qB, qC, qD, qE, qF, qG, qH, qI, qJ, qK, qL, qM, qN, qO, qP, qQ, qR, qS, qT, qU, qV, qW, qX, qY, qZ, qe, qf, qg, qh, qj, qk, ql, qm, qn, qo, qp, qq, q0t, qu, qv, ev, qw, qy, qz, zA, zB, zC, zD, zE, zF, zG, zH, zI, zJ, TE.sv, zK, zL, zM, ↓reduceIte, reduceCtorEq, Value.oneCell', Nat.reduceEqDiff, Nat.reduceAdd, Nat.reduceLT, Nat.reduceBEq, Nat.reduceSub, Nat.reduceLeDiff, zP, zQ, zR, zS, zT, zU, zV, zW, zX, zY, zZ, za, zb, zc, zd, ze, zf, zg, zh, zi, zj, zk, zl, zm, zn, zo, zp, zq, zr, zt, zu, zw, zx, zy, zz, cE, jA, jB, hap, killE, deadOf, rwE, cD, cO, jC, jD, jE, jF, jG, jH, jI, jJ, jK, jL, jM, jN, jO, jP, jQ, jR, jS, jT, jU, jV, jW, jX, jY, hP, hk, res49, kp49, eC0, rowCon, enC, ecS])
  have fin : ∀ c2 (v : SV) en, v = .t [.c (.s (allM allowed ws c []).2.1), .c (.b ((allM allowed ws c []).2.2.contains 98)), .c (.b ((allM allowed ws c []).2.2.contains 113))] → (allM allowed ws c []).1 = c2 → en = [enC c2 true] → Fin C res49 v en := fun c2 v en hv hc he => by
    subst hv; subst hc; subst he
    refine Fin_cx hC hres49 fun ρ w' hw _ _ => ?_
    have hb := ec_blk hw rfl (by rw [hC]; exact Nat.zero_lt_one) (by rw [hC]; rfl)
    have hup := hw.up
    rw [hC] at hup
    exact ⟨rfl, hup, hb⟩
  refine Run_loopP (ι := { y : Nat × Cd × List UInt8 // y.1 ≤ n ∧ y.2.2.length ≤ y.1 ∧ allM allowed (ws.drop y.1) y.2.1 y.2.2 = allM allowed ws c [] }) (fun y => slAll a n cap allowed y.1.1 y.1.2.2) (fun y => [enC y.1.2.1 true]) (fun y => n + 1 - y.1.1) ⟨(0, c, []), Nat.zero_le _, Nat.le_refl _, rfl⟩ (sub_mk ⟨rfl, rfl, rfl, rfl, rfl, rfl, trivial⟩) rfl ?_
  rintro ⟨⟨j, c1, seen⟩, hj, hsl, hall⟩ D dP dS dw dn dr dk ddf dPan dRet hX hJ
  have hP0 := hP; have hk0 := hk; have hctr0 := hctr
  have hP : D.P = Tryz.prog := by rw [dP]; exact hP0
  have hk : D.kp = kp49 := by rw [dk]; exact hk0
  have hED : EnvC D := by unfold EnvC; rw [dS, dw]; exact hEC
  have hctr : CtrOk D eC0 := eC0_ok hP hED
  simp only at hj hsl hall
  show Run D _ _ (slAll a n cap allowed j seen) [enC c1 true]
  by_cases hjn : j < n
  · obtain ⟨x, hx⟩ : ∃ x, ws[j]? = some x := ⟨_, List.getElem?_eq_getElem (by omega)⟩
    obtain ⟨hx0, hxl⟩ := hl x (List.mem_of_getElem? hx)
    obtain ⟨b, t, rfl⟩ : ∃ b t, x = b :: t := by cases x with | nil => exact absurd rfl hx0 | cons b t => exact ⟨b, t, rfl⟩
    obtain ⟨b0, o, rfl, hr⟩ := hraw.rd (D := D) (by rw [dS, hC]; exact fun k hk => hk) (by rw [dw, hC]; rfl) hx
    have p3 : IntKind.i64.wrap ((j : Int) + 1) = ((j + 1 : Nat) : Int) := by rw [IntWalk.i64_in _ (by omega)]; rfl
    have q1 : decide ((j : Int) < ((n : Nat) : Int)) = true := decide_eq_true (by omega)
    have p0 : (0 : Int) ≤ (j : Int) := by omega
    have p1 : (j : Int) < ((n : Nat) : Int) := by omega
    have hdr : ws.drop j = (b :: t) :: ws.drop (j + 1) := by
      rw [List.drop_eq_getElem_cons (by omega)]; congr 1
      exact (List.getElem?_eq_some_iff.1 hx).2
    rw [hdr, allM] at hall
    have dFin : ∀ c2 (v : SV) en, v = .t [.c (.s (allM allowed ws c []).2.1), .c (.b ((allM allowed ws c []).2.2.contains 98)), .c (.b ((allM allowed ws c []).2.2.contains 113))] → (allM allowed ws c []).1 = c2 → en = [enC c2 true] → Fin D res49 v en := fun c2 v en hv hc he ρ a w' hw hn hwf hd hr => dRet _ _ (fin c2 v en hv hc he ρ a w' (hw.toC dS.symm dw.symm dr.symm dn.symm) (by rw [← dn]; exact hn) hwf (hd.trans ddf) (fun fn h => by rw [← dP]; exact hr fn h))
    cases ha : allowed.contains b with
    | false =>
      rw [if_pos ha] at hall
      (refine VT_ok hctr (rs := res49) true 300 _ _ _ ?_; simp (maxSteps := 1000000) only [VT, jf, jg, jZ, ja, jd, je, VC, qA, qB, qC, qD, qE, qF, qG, qH, qI, qJ, qK, qL, qM, qN, qO, qP, qQ, qR, qS, qT, qU, qV, qW, qX, qY, qZ, qe, qf, qg, qh, qj, qk, ql, qm, qn, qo, qp, qq, q0t, qu, qv, ev, qw, qy, qz, zA, zB, zC, zD, zE, zF, zG, zH, zI, zJ, TE.sv, zK, zL, zM, ↓reduceIte, reduceCtorEq, Value.oneCell', Nat.reduceEqDiff, Nat.reduceAdd, Nat.reduceLT, Nat.reduceBEq, Nat.reduceSub, Nat.reduceLeDiff, zP, zQ, zR, zS, zT, zU, zV, zW, zX, zY, zZ, za, zb, zc, zd, ze, zf, zg, zh, zi, zj, zk, zl, zm, zn, zo, zp, zq, zr, zt, zu, zw, zx, zy, zz, cE, jA, jB, hap, killE, deadOf, rwE, cD, cO, jC, jD, jE, jF, jG, jH, jI, jJ, jK, jL, jM, jN, jO, jP, jQ, jR, jS, jT, jU, jV, jW, jX, jY, hP, hk, res49, kp49, eC0, rowCon, con_ib, enC, ecS, slAll, q1, hr, p0, p1, p3, Int.toNat_natCast, Int.toNat_zero, Int.toNat_one, Nat.mul_one, List.take_succ_cons, List.take_zero, List.drop_zero, List.drop_succ_cons, ha])
      exact ⟨⟨Int.le_refl _, by decide, by omega⟩, dFin c1 _ _ (by rw [← hall]; rfl) (by rw [← hall]) rfl⟩
    | true =>
      rw [if_neg (by rw [ha]; simp)] at hall
      cases hs : seen.contains b with
      | true =>
        rw [if_pos hs] at hall
        (refine VT_ok hctr (rs := res49) true 300 _ _ _ ?_; simp (maxSteps := 1000000) only [VT, jf, jg, jZ, ja, jd, je, VC, qA, qB, qC, qD, qE, qF, qG, qH, qI, qJ, qK, qL, qM, qN, qO, qP, qQ, qR, qS, qT, qU, qV, qW, qX, qY, qZ, qe, qf, qg, qh, qj, qk, ql, qm, qn, qo, qp, qq, q0t, qu, qv, ev, qw, qy, qz, zA, zB, zC, zD, zE, zF, zG, zH, zI, zJ, TE.sv, zK, zL, zM, ↓reduceIte, reduceCtorEq, Value.oneCell', Nat.reduceEqDiff, Nat.reduceAdd, Nat.reduceLT, Nat.reduceBEq, Nat.reduceSub, Nat.reduceLeDiff, zP, zQ, zR, zS, zT, zU, zV, zW, zX, zY, zZ, za, zb, zc, zd, ze, zf, zg, zh, zi, zj, zk, zl, zm, zn, zo, zp, zq, zr, zt, zu, zw, zx, zy, zz, cE, jA, jB, hap, killE, deadOf, rwE, cD, cO, jC, jD, jE, jF, jG, jH, jI, jJ, jK, jL, jM, jN, jO, jP, jQ, jR, jS, jT, jU, jV, jW, jX, jY, hP, hk, res49, kp49, eC0, rowCon, con_ib, enC, ecS, slAll, q1, hr, p0, p1, p3, Int.toNat_natCast, Int.toNat_zero, Int.toNat_one, Nat.mul_one, List.take_succ_cons, List.take_zero, List.drop_zero, List.drop_succ_cons, ha, hs])
        exact ⟨⟨Int.le_refl _, by decide, by omega⟩, ⟨Int.le_refl _, by decide, by omega⟩, dFin c1 _ _ (by rw [← hall]; rfl) (by rw [← hall]) rfl⟩
      | false =>
        rw [if_neg (by rw [hs]; simp)] at hall
        (refine VT_ok hctr (rs := res49) true 300 _ _ _ ?_; simp (maxSteps := 1000000) only [VT, jf, jg, jZ, ja, jd, je, VC, qA, qB, qC, qD, qE, qF, qG, qH, qI, qJ, qK, qL, qM, qN, qO, qP, qQ, qR, qS, qT, qU, qV, qW, qX, qY, qZ, qe, qf, qg, qh, qj, qk, ql, qm, qn, qo, qp, qq, q0t, qu, qv, ev, qw, qy, qz, zA, zB, zC, zD, zE, zF, zG, zH, zI, zJ, TE.sv, zK, zL, zM, ↓reduceIte, reduceCtorEq, Value.oneCell', Nat.reduceEqDiff, Nat.reduceAdd, Nat.reduceLT, Nat.reduceBEq, Nat.reduceSub, Nat.reduceLeDiff, zP, zQ, zR, zS, zT, zU, zV, zW, zX, zY, zZ, za, zb, zc, zd, ze, zf, zg, zh, zi, zj, zk, zl, zm, zn, zo, zp, zq, zr, zt, zu, zw, zx, zy, zz, cE, jA, jB, hap, killE, deadOf, rwE, cD, cO, jC, jD, jE, jF, jG, jH, jI, jJ, jK, jL, jM, jN, jO, jP, jQ, jR, jS, jT, jU, jV, jW, jX, jY, hP, hk, res49, kp49, eC0, rowCon, con_ib, enC, ecS, slAll, q1, hr, p0, p1, p3, Int.toNat_natCast, Int.toNat_zero, Int.toNat_one, Nat.mul_one, List.take_succ_cons, List.take_zero, List.drop_zero, List.drop_succ_cons, ha, hs])
        refine ⟨⟨Int.le_refl _, by decide, by omega⟩, ⟨Int.le_refl _, by decide, by omega⟩, ?_⟩
        (refine Run_drawE hctr (by rw [hP]; rfl) rs49_9 [fun en => (.c (.b (setM c1 b t).2), zE en 0 (enC (setM c1 b t).1 true))] (ensure_type_of% (Cmp.of (by simp (maxSteps := 1000000) only [VC, qA, qB, qC, qD, qE, qF, qG, qH, qI, qJ, qK, qL, qM, qN, qO, qP, qQ, qR, qS, qT, qU, qV, qW, qX, qY, qZ, qe, qf, qg, qh, qj, qk, ql, qm, qn, qo, qp, qq, q0t, qu, qv, ev, qw, qy, qz, zA, zB, zC, zD, zE, zF, zG, zH, zI, zJ, TE.sv, zK, zL, zM, ↓reduceIte, reduceCtorEq, Value.oneCell', Nat.reduceEqDiff, Nat.reduceAdd, Nat.reduceLT, Nat.reduceBEq, Nat.reduceSub, Nat.reduceLeDiff, zP, zQ, zR, zS, zT, zU, zV, zW, zX, zY, zZ, za, zb, zc, zd, ze, zf, zg, zh, zi, zj, zk, zl, zm, zn, zo, zp, zq, zr, zt, zu, zw, zx, zy, zz, cE, jA, jB, hap, killE, deadOf, rwE, cD, cO, jC, jD, jE, jF, jG, jH, jI, jJ, jK, jL, jM, jN, jO, jP, jQ, jR, jS, jT, jU, jV, jW, jX, jY, hP, eC0, rowCon, con_ib, enC, ecS, slAll, q1, hr, p0, p1, p3, Int.toNat_natCast, Int.toNat_zero, Int.toNat_one, Nat.mul_one, List.take_succ_cons, List.take_zero, List.drop_zero, List.drop_succ_cons, ha, hs]; rfl)) "" Cmp.mk) (by kernel_rfl) (by kernel_rfl) (by first | exact lenB_one _ | kernel_rfl) (by kernel_rfl) (by rfl) (by rfl) (by first | exact firstN_self _ | rfl) (by rfl) ?_ ?_; rotate_left; refine VT_ok hctr (rs := res49) true 300 _ _ _ ?_; simp (maxSteps := 1000000) only [VT, jf, jg, jZ, ja, jd, je, VC, qA, qB, qC, qD, qE, qF, qG, qH, qI, qJ, qK, qL, qM, qN, qO, qP, qQ, qR, qS, qT, qU, qV, qW, qX, qY, qZ, qe, qf, qg, qh, qj, qk, ql, qm, qn, qo, qp, qq, q0t, qu, qv, ev, qw, qy, qz, zA, zB, zC, zD, zE, zF, zG, zH, zI, zJ, TE.sv, zK, zL, zM, ↓reduceIte, reduceCtorEq, Value.oneCell', Nat.reduceEqDiff, Nat.reduceAdd, Nat.reduceLT, Nat.reduceBEq, Nat.reduceSub, Nat.reduceLeDiff, zP, zQ, zR, zS, zT, zU, zV, zW, zX, zY, zZ, za, zb, zc, zd, ze, zf, zg, zh, zi, zj, zk, zl, zm, zn, zo, zp, zq, zr, zt, zu, zw, zx, zy, zz, cE, jA, jB, hap, killE, deadOf, rwE, cD, cO, jC, jD, jE, jF, jG, jH, jI, jJ, jK, jL, jM, jN, jO, jP, jQ, jR, jS, jT, jU, jV, jW, jX, jY, hP, hk, res49, kp49, eC0, rowCon, con_ib, enC, ecS, slAll, q1, hr, p0, p1, p3, Int.toNat_natCast, Int.toNat_zero, Int.toNat_one, Nat.mul_one, List.take_succ_cons, List.take_zero, List.drop_zero, List.drop_succ_cons, ha, hs]; rotate_left; simp (maxSteps := 1000000) only [VC, qA, qB, qC, qD, qE, qF, qG, qH, qI, qJ, qK, qL, qM, qN, qO, qP, qQ, qR, qS, qT, qU, qV, qW, qX, qY, qZ, qe, qf, qg, qh, qj, qk, ql, qm, qn, qo, qp, qq, q0t, qu, qv, ev, qw, qy, qz, zA, zB, zC, zD, zE, zF, zG, zH, zI, zJ, TE.sv, zK, zL, zM, ↓reduceIte, reduceCtorEq, Value.oneCell', Nat.reduceEqDiff, Nat.reduceAdd, Nat.reduceLT, Nat.reduceBEq, Nat.reduceSub, Nat.reduceLeDiff, zP, zQ, zR, zS, zT, zU, zV, zW, zX, zY, zZ, za, zb, zc, zd, ze, zf, zg, zh, zi, zj, zk, zl, zm, zn, zo, zp, zq, zr, zt, zu, zw, zx, zy, zz, cE, jA, jB, hap, killE, deadOf, rwE, cD, cO, jC, jD, jE, jF, jG, jH, jI, jJ, jK, jL, jM, jN, jO, jP, jQ, jR, jS, jT, jU, jV, jW, jX, jY, hP, eC0, rowCon, con_ib, enC, ecS, slAll, q1, hr, p0, p1, p3, Int.toNat_natCast, Int.toNat_zero, Int.toNat_one, Nat.mul_one, List.take_succ_cons, List.take_zero, List.drop_zero, List.drop_succ_cons, ha, hs])
        · refine ⟨⟨Int.le_refl _, by omega⟩, ⟨by decide, by omega, Int.le_refl _⟩, ?_⟩
          rw [List.take_length, show ((b :: t).getD 0 0) = b from rfl]
          exact mset_h (x := b) (s := t) (c := c1) (N := 0) (en := [enC c1 true]) hP hED (by simp only [List.length_cons] at hxl; omega) rfl Nat.zero_lt_one (fun q hq => by simp [mkC] at hq) rfl
        cases hb : (setM c1 b t).2 with
        | false =>
          rw [if_neg (by rw [hb]; simp)] at hall
          simp (maxSteps := 1000000) only [VT, jf, jg, jZ, ja, jd, je, VC, qA, qB, qC, qD, qE, qF, qG, qH, qI, qJ, qK, qL, qM, qN, qO, qP, qQ, qR, qS, qT, qU, qV, qW, qX, qY, qZ, qe, qf, qg, qh, qj, qk, ql, qm, qn, qo, qp, qq, q0t, qu, qv, ev, qw, qy, qz, zA, zB, zC, zD, zE, zF, zG, zH, zI, zJ, TE.sv, zK, zL, zM, ↓reduceIte, reduceCtorEq, Value.oneCell', Nat.reduceEqDiff, Nat.reduceAdd, Nat.reduceLT, Nat.reduceBEq, Nat.reduceSub, Nat.reduceLeDiff, zP, zQ, zR, zS, zT, zU, zV, zW, zX, zY, zZ, za, zb, zc, zd, ze, zf, zg, zh, zi, zj, zk, zl, zm, zn, zo, zp, zq, zr, zt, zu, zw, zx, zy, zz, cE, jA, jB, hap, killE, deadOf, rwE, cD, cO, jC, jD, jE, jF, jG, jH, jI, jJ, jK, jL, jM, jN, jO, jP, jQ, jR, jS, jT, jU, jV, jW, jX, jY, hP, hk, res49, kp49, eC0, rowCon, con_ib, enC, ecS, slAll, q1, hr, p0, p1, p3, Int.toNat_natCast, Int.toNat_zero, Int.toNat_one, Nat.mul_one, List.take_succ_cons, List.take_zero, List.drop_zero, List.drop_succ_cons, ha, hs, hb]
          exact dFin (setM c1 b t).1 _ _ (by rw [← hall]; rfl) (by rw [← hall]) rfl
        | true =>
          rw [if_pos hb] at hall
          simp (maxSteps := 1000000) only [VT, jf, jg, jZ, ja, jd, je, VC, qA, qB, qC, qD, qE, qF, qG, qH, qI, qJ, qK, qL, qM, qN, qO, qP, qQ, qR, qS, qT, qU, qV, qW, qX, qY, qZ, qe, qf, qg, qh, qj, qk, ql, qm, qn, qo, qp, qq, q0t, qu, qv, ev, qw, qy, qz, zA, zB, zC, zD, zE, zF, zG, zH, zI, zJ, TE.sv, zK, zL, zM, ↓reduceIte, reduceCtorEq, Value.oneCell', Nat.reduceEqDiff, Nat.reduceAdd, Nat.reduceLT, Nat.reduceBEq, Nat.reduceSub, Nat.reduceLeDiff, zP, zQ, zR, zS, zT, zU, zV, zW, zX, zY, zZ, za, zb, zc, zd, ze, zf, zg, zh, zi, zj, zk, zl, zm, zn, zo, zp, zq, zr, zt, zu, zw, zx, zy, zz, cE, jA, jB, hap, killE, deadOf, rwE, cD, cO, jC, jD, jE, jF, jG, jH, jI, jJ, jK, jL, jM, jN, jO, jP, jQ, jR, jS, jT, jU, jV, jW, jX, jY, hP, hk, res49, kp49, eC0, rowCon, con_ib, enC, ecS, slAll, q1, hr, p0, p1, p3, Int.toNat_natCast, Int.toNat_zero, Int.toNat_one, Nat.mul_one, List.take_succ_cons, List.take_zero, List.drop_zero, List.drop_succ_cons, ha, hs, hb]
          exact ⟨⟨Int.le_refl _, by decide, by omega⟩, by omega, hJ ⟨(j + 1, (setM c1 b t).1, seen ++ [b]), by simp only; omega, by simp; omega, hall⟩ _ (by show n + 1 - (j + 1) < n + 1 - j; omega) (sub_mk ⟨rfl, rfl, rfl, rfl, rfl, rfl, trivial⟩)⟩
  · have q1 : decide ((j : Int) < ((n : Nat) : Int)) = false := decide_eq_false (by omega)
    have hjn' : j = n := by omega
    (refine VT_ok hctr (rs := res49) true 300 _ _ _ ?_; simp (maxSteps := 1000000) only [VT, jf, jg, jZ, ja, jd, je, VC, qA, qB, qC, qD, qE, qF, qG, qH, qI, qJ, qK, qL, qM, qN, qO, qP, qQ, qR, qS, qT, qU, qV, qW, qX, qY, qZ, qe, qf, qg, qh, qj, qk, ql, qm, qn, qo, qp, qq, q0t, qu, qv, ev, qw, qy, qz, zA, zB, zC, zD, zE, zF, zG, zH, zI, zJ, TE.sv, zK, zL, zM, ↓reduceIte, reduceCtorEq, Value.oneCell', Nat.reduceEqDiff, Nat.reduceAdd, Nat.reduceLT, Nat.reduceBEq, Nat.reduceSub, Nat.reduceLeDiff, zP, zQ, zR, zS, zT, zU, zV, zW, zX, zY, zZ, za, zb, zc, zd, ze, zf, zg, zh, zi, zj, zk, zl, zm, zn, zo, zp, zq, zr, zt, zu, zw, zx, zy, zz, cE, jA, jB, hap, killE, deadOf, rwE, cD, cO, jC, jD, jE, jF, jG, jH, jI, jJ, jK, jL, jM, jN, jO, jP, jQ, jR, jS, jT, jU, jV, jW, jX, jY, hP, hk, res49, kp49, eC0, rowCon, con_ib, enC, ecS, slAll, q1])
    refine hX rfl rfl ?_
    have hP := hP0; have hk := hk0; have hctr := hctr0
    (refine VT_ok hctr (rs := res49) true 300 _ _ _ ?_; simp (maxSteps := 1000000) only [VT, jf, jg, jZ, ja, jd, je, VC, qA, qB, qC, qD, qE, qF, qG, qH, qI, qJ, qK, qL, qM, qN, qO, qP, qQ, qR, qS, qT, qU, qV, qW, qX, qY, qZ, qe, qf, qg, qh, qj, qk, ql, qm, qn, qo, qp, qq, q0t, qu, qv, ev, qw, qy, qz, zA, zB, zC, zD, zE, zF, zG, zH, zI, zJ, TE.sv, zK, zL, zM, ↓reduceIte, reduceCtorEq, Value.oneCell', Nat.reduceEqDiff, Nat.reduceAdd, Nat.reduceLT, Nat.reduceBEq, Nat.reduceSub, Nat.reduceLeDiff, zP, zQ, zR, zS, zT, zU, zV, zW, zX, zY, zZ, za, zb, zc, zd, ze, zf, zg, zh, zi, zj, zk, zl, zm, zn, zo, zp, zq, zr, zt, zu, zw, zx, zy, zz, cE, jA, jB, hap, killE, deadOf, rwE, cD, cO, jC, jD, jE, jF, jG, jH, jI, jJ, jK, jL, jM, jN, jO, jP, jQ, jR, jS, jT, jU, jV, jW, jX, jY, hP, hk, res49, kp49, eC0, rowCon, con_ib, enC, ecS, slAll, q1])
    rw [List.drop_of_length_le (by omega), allM] at hall
    exact fin c1 _ _ (by rw [← hall]) (by rw [← hall]) rfl
end Go.Proofs.YtehfcboiimdkbaaGreatDoor
