/- A connection's next request (conn.Next), walked. Printed by gen_cx.py. -/
import Derived.Test.YtehfcboiimdkbaaGreatDoorCCcp
namespace Go.Proofs.YtehfcboiimdkbaaGreatDoor
set_option linter.unusedSimpArgs false
set_option linter.unusedVariables false
set_option linter.unusedSimpArgs false
set_option linter.unusedVariables false
set_option maxHeartbeats 8000000
open Go.RowKit
set_option maxRecDepth 100000
def NextP (g : Nat) (w : World) (x : Cn × Gq × Bool) (e : Ending) (w' : World) : Prop := Upd (One g) w w' ∧ Blk w' g 47 (cnA x.1) ∧ ∃ v, e = .returned (.tuple #[v, .bool x.2.2]) ∧ GqV w.heap.size w' v x.2.1
theorem rowOk_new {C : Cx} {ρ : Nat → RE} {en : List EN} {w' : World} {N e z n b : Nat} {cells : List SC} (hw : Hw C ρ (· < en.length) en w') (lN : N < en.length) (hN : zD en N = some (rwE e z n cells)) (he : e ≠ DEAD) (hb : (ρ N).nl = none → b ≤ (ρ N).blk) :
    ∃ r1 : RE, RowOk b w' r1 e z n (dens ρ cells) ∧ rwOf (ρ N) n = rwOf r1 n ∧ (r1.nl = none → r1.blk = (ρ N).blk ∧ (ρ N).nl = none) := by
  have ho := (hw.ho N _ _ _ lN hN).2
  cases hnl : (ρ N).nl with
  | none =>
    refine ⟨ρ N, ⟨hb hnl, ?_, fun _ => (hw.hp N _ _ _ lN hN).heap ⟨he, hnl⟩, fun h => absurd hnl h⟩, rfl, fun _ => ⟨rfl, rfl⟩⟩
    rw [dens_len]; exact ho
  | some p =>
    have hc := (hw.hp N _ _ _ lN hN).non (by rw [hnl]; exact fun h => nomatch h)
    subst hc
    rcases ho.2 with h | ⟨h1, h2, h3⟩
    · rw [hnl] at h; cases h.1
    · subst h2
      refine ⟨nilR b, RowOk.nil _ _ _ _, ?_, fun h => by cases h⟩
      rw [rwOf_off h1]; rfl
def nxC : Ctr := fun _ _ _ => none
theorem next_w {c : Cn} (hok : CnOk c) {w : World} {g : Nat} (h : Blk w g 47 (cnA c)) (hEg : ∀ w', Upd (One g) w w' → EnvT w') : Calls Tryz.prog 13 #[.pointer (some ⟨g, 0, none⟩)] w (NextP g w (cnNext c)) := by
  have hgs : g < w.heap.size := h.lt
  refine calls_of_Run Tryz.func13 rfl kp13 (S := One g) (ρ := fun _ => reOf g) [.c (.p 0 0)] Tryz.ntmps13 (cn_at h true (One g) (fun _ => rfl)) (by simp [SV.wf, SC.wf]) (by simp) ?_
  intro C hC hP hk
  have hctr : CtrOk C nxC := by intro f en xs p v h; cases h
  have hn0 : C.n0 = 1 := by rw [hC]; rfl
  have hE : ∀ w', Upd C.S C.w0 w' → EnvT w' := fun w' hu => by rw [hC] at hu; exact hEg w' hu
  have hw0 : C.w0 = w := by rw [hC]; rfl
  have hS : C.S = One g := by rw [hC]; rfl
  have hρ : C.ρ0 0 = reOf g := by rw [hC]; rfl
  have fin0 : ∀ en, cnNext c = (c, Gq.zero, false) → zD en 0 = some (cnE c true) → Fin C res13 (.t [.g (gqS noS noS Gq.zero), .c (.b false)]) en := fun en he h0 => by
    refine Fin_cx (v := .t [.g (gqS noS noS Gq.zero), .c (.b false)]) hC hres13 fun ρ w' hw _ _ => ?_
    have hb := cn_blk hw h0 (by rw [hn0]; exact Nat.zero_lt_one) hρ
    have hup := hw.up
    rw [hC] at hup
    rw [he]
    exact ⟨hup, hb, _, rfl, GqV.none rfl rfl⟩
  have fin1 : ∀ (c' : Cn) (r : Gq) V en, cnNext c = (c', r, true) → V = .t [.g (gqZ r 2), .c (.b true)] → zD en 0 = some (cnE c' true) → zD en 2 = some (cmG r) → zD en 3 = some (flG r) → Fin C res13 V en := fun c' r V en he hV h0 h1 h2 => by
    subst hV
    refine Fin_cx (v := .t [.g (gqZ r 2), .c (.b true)]) hC hres13 fun ρ w' hw _ _ => ?_
    have hb := cn_blk hw h0 (by rw [hn0]; exact Nat.zero_lt_one) hρ
    have hup := hw.up
    rw [hC] at hup
    have l0 : 0 < en.length := by rw [nthS_eq] at h0; exact (List.getElem?_eq_some_iff.1 h0).1
    have l2 : 2 < en.length := by rw [nthS_eq] at h1; exact (List.getElem?_eq_some_iff.1 h1).1
    have l3 : 3 < en.length := by rw [nthS_eq] at h2; exact (List.getElem?_eq_some_iff.1 h2).1
    have e0 : ρ 0 = reOf g := by have := hw.ini 0 (by rw [hn0]; exact Nat.zero_lt_one); rw [hρ] at this; exact this
    have new : ∀ (N : Nat) (t : TypeId) (iv : RE → Prop) (cells : List SC), N < en.length → 0 ≠ N → t ≠ DEAD → zD en N = some ⟨(t, 0, iv), cells, true⟩ → ((ρ N).nl = none → w.heap.size ≤ (ρ N).blk) := fun N t iv cells lN hne ht hN hnl => by
      rcases hw.mu N _ _ lN hN with hs | hs
      · rw [hS] at hs
        have : (ρ 0).blk = (ρ N).blk := by rw [e0]; exact hs.symm
        exact absurd (hw.inj 0 N l0 lN ((deadE_of h0).2 ⟨by show ¬ ((47 : Nat) = DEAD); decide, by rw [e0]; rfl⟩) ((deadE_of hN).2 ⟨ht, hnl⟩) this) hne
      · rw [hw0] at hs; exact hs
    rw [he]
    have q1 := rowOk_new hw l2 h1 (by show ¬ ((54 : Nat) = DEAD); decide) (new 2 _ _ _ l2 (by decide) (by show ¬ ((54 : Nat) = DEAD); decide) h1)
    have q2 := rowOk_new hw l3 h2 (by show ¬ ((9 : Nat) = DEAD); decide) (new 3 _ _ _ l3 (by decide) (by show ¬ ((9 : Nat) = DEAD); decide) h2)
    rw [ec_den] at q1
    rw [st_den] at q2
    obtain ⟨a1, a2, a3⟩ := q1
    obtain ⟨b1, b2, b3⟩ := q2
    refine ⟨hup, hb, _, rfl, a1, b1, ?_, a2, b2, fun h3 h4 hq => ?_⟩
    · show gqA (rwOf (ρ 2) r.cmds.length) (rwOf (ρ 3) r.flags.length) r = _
      rw [a3.1, b3.1]
    · have h3' := a3.2 h3
      have h4' := b3.2 h4
      rw [h3'.1, h4'.1] at hq
      have := hw.inj 2 3 l2 l3 ((deadE_of h1).2 ⟨by show ¬ ((54 : Nat) = DEAD); decide, h3'.2⟩) ((deadE_of h2).2 ⟨by show ¬ ((9 : Nat) = DEAD); decide, h4'.2⟩) hq
      cases this
  cases he : c.ends with
  | true =>
    (refine VT_ok hctr (rs := res13) true 300 _ _ _ ?_; simp (maxSteps := 1000000) only [VT, jf, jg, jZ, ja, jd, je, VC, qA, qB, qC, qD, qE, qF, qG, qH, qI, qJ, qK, qL, qM, qN, qO, qP, qQ, qR, qS, qT, qU, qV, qW, qX, qY, qZ, qe, qf, qg, qh, qj, qk, ql, qm, qn, qo, qp, qq, q0t, qu, qv, ev, qw, qy, qz, zA, zB, zC, zD, zE, zF, zG, zH, zI, zJ, TE.sv, zK, zL, zM, ↓reduceIte, reduceCtorEq, Value.oneCell', Nat.reduceEqDiff, Nat.reduceAdd, Nat.reduceLT, Nat.reduceBEq, Nat.reduceSub, Nat.reduceLeDiff, zP, zQ, zR, zS, zT, zU, zV, zW, zX, zY, zZ, za, zb, zc, zd, ze, zf, zg, zh, zi, zj, zk, zl, zm, zn, zo, zp, zq, zr, zt, zu, zw, zx, zy, zz, cE, jA, jB, hap, killE, deadOf, rwE, cD, cO, jC, jD, jE, jF, jG, jH, jI, jJ, jK, jL, jM, jN, jO, jP, jQ, jR, jS, jT, jU, jV, jW, jX, jY, hP, hk, res13, kp13, nxC, cnE, cnS, Int.toNat_natCast, Int.le_refl, List.drop_zero, he])
    exact fin0 _ (by unfold cnNext; rw [if_pos (.inl he)]) (by simp [zD, cnE, cnS, he])
  | false =>
    by_cases ho : 100000 ≤ c.out.length
    · have c1 : decide ((100000 : Int) ≤ (c.out.length : Int)) = true := decide_eq_true (by omega)
      (refine VT_ok hctr (rs := res13) true 300 _ _ _ ?_; simp (maxSteps := 1000000) only [VT, jf, jg, jZ, ja, jd, je, VC, qA, qB, qC, qD, qE, qF, qG, qH, qI, qJ, qK, qL, qM, qN, qO, qP, qQ, qR, qS, qT, qU, qV, qW, qX, qY, qZ, qe, qf, qg, qh, qj, qk, ql, qm, qn, qo, qp, qq, q0t, qu, qv, ev, qw, qy, qz, zA, zB, zC, zD, zE, zF, zG, zH, zI, zJ, TE.sv, zK, zL, zM, ↓reduceIte, reduceCtorEq, Value.oneCell', Nat.reduceEqDiff, Nat.reduceAdd, Nat.reduceLT, Nat.reduceBEq, Nat.reduceSub, Nat.reduceLeDiff, zP, zQ, zR, zS, zT, zU, zV, zW, zX, zY, zZ, za, zb, zc, zd, ze, zf, zg, zh, zi, zj, zk, zl, zm, zn, zo, zp, zq, zr, zt, zu, zw, zx, zy, zz, cE, jA, jB, hap, killE, deadOf, rwE, cD, cO, jC, jD, jE, jF, jG, jH, jI, jJ, jK, jL, jM, jN, jO, jP, jQ, jR, jS, jT, jU, jV, jW, jX, jY, hP, hk, res13, kp13, nxC, cnE, cnS, Int.toNat_natCast, Int.le_refl, List.drop_zero, he, c1])
      exact fin0 _ (by unfold cnNext; rw [if_pos (.inr ho)]) (by simp [zD, cnE, cnS, he])
    · have c1 : decide ((100000 : Int) ≤ (c.out.length : Int)) = false := decide_eq_false (by omega)
      have hno : ¬ (c.ends = true ∨ 100000 ≤ c.out.length) := by rw [he]; simpa using ho
      obtain ⟨r, n0, hx⟩ : ∃ r n0, cParse c.inp = (r, n0) := ⟨_, _, rfl⟩
      have hnx : cnNext c = if r.kind = 0 then (c, Gq.zero, false) else (if r.close then cnHang (cnPass c r n0.toNat) else cnPass c r n0.toNat, r, true) := by
        unfold cnNext; rw [if_neg hno]; simp only [hx]
      (refine VT_ok hctr (rs := res13) true 300 _ _ _ ?_; simp (maxSteps := 1000000) only [VT, jf, jg, jZ, ja, jd, je, VC, qA, qB, qC, qD, qE, qF, qG, qH, qI, qJ, qK, qL, qM, qN, qO, qP, qQ, qR, qS, qT, qU, qV, qW, qX, qY, qZ, qe, qf, qg, qh, qj, qk, ql, qm, qn, qo, qp, qq, q0t, qu, qv, ev, qw, qy, qz, zA, zB, zC, zD, zE, zF, zG, zH, zI, zJ, TE.sv, zK, zL, zM, ↓reduceIte, reduceCtorEq, Value.oneCell', Nat.reduceEqDiff, Nat.reduceAdd, Nat.reduceLT, Nat.reduceBEq, Nat.reduceSub, Nat.reduceLeDiff, zP, zQ, zR, zS, zT, zU, zV, zW, zX, zY, zZ, za, zb, zc, zd, ze, zf, zg, zh, zi, zj, zk, zl, zm, zn, zo, zp, zq, zr, zt, zu, zw, zx, zy, zz, cE, jA, jB, hap, killE, deadOf, rwE, cD, cO, jC, jD, jE, jF, jG, jH, jI, jJ, jK, jL, jM, jN, jO, jP, jQ, jR, jS, jT, jU, jV, jW, jX, jY, hP, hk, res13, kp13, nxC, cnE, cnS, Int.toNat_natCast, Int.le_refl, List.drop_zero, he, c1])
      refine Run_hcall rfl (pgV (r, n0) 2) [cnE c true, ⟨(30, 0, whole), mqS noS noS Mq.zero, true⟩, cmG r, flG r] (gparse_h (C := C) (N := 2) (x := (r, n0)) (ys := [.c (.s c.inp)]) hP (fun args w => Tryz.call20 args w) (fun ρ w hu => by rw [← hx]; exact cparse_w c.inp (by have := hok.inp; omega) w (hE w hu)) (fun q => by simp only [zG]; omega) (by rw [hn0]; decide) rfl rfl (fun q h1 h2 => by
        match q with
        | 0 => simp [zD, cnE, cnS, he]
        | 1 => rfl
        | 2 => exact absurd rfl h1
        | 3 => exact absurd rfl h2
        | _ + 4 => rfl)) (by simp [zG]) (by simp) ?_
      cases hk0 : (r.kind == 0) with
      | true =>
        (refine VT_ok hctr (rs := res13) true 300 _ _ _ ?_; simp (maxSteps := 1000000) only [VT, jf, jg, jZ, ja, jd, je, VC, qA, qB, qC, qD, qE, qF, qG, qH, qI, qJ, qK, qL, qM, qN, qO, qP, qQ, qR, qS, qT, qU, qV, qW, qX, qY, qZ, qe, qf, qg, qh, qj, qk, ql, qm, qn, qo, qp, qq, q0t, qu, qv, ev, qw, qy, qz, zA, zB, zC, zD, zE, zF, zG, zH, zI, zJ, TE.sv, zK, zL, zM, ↓reduceIte, reduceCtorEq, Value.oneCell', Nat.reduceEqDiff, Nat.reduceAdd, Nat.reduceLT, Nat.reduceBEq, Nat.reduceSub, Nat.reduceLeDiff, zP, zQ, zR, zS, zT, zU, zV, zW, zX, zY, zZ, za, zb, zc, zd, ze, zf, zg, zh, zi, zj, zk, zl, zm, zn, zo, zp, zq, zr, zt, zu, zw, zx, zy, zz, cE, jA, jB, hap, killE, deadOf, rwE, cD, cO, jC, jD, jE, jF, jG, jH, jI, jJ, jK, jL, jM, jN, jO, jP, jQ, jR, jS, jT, jU, jV, jW, jX, jY, hP, hk, res13, kp13, nxC, cnE, cnS, Int.toNat_natCast, Int.le_refl, List.drop_zero, pgV, gqZ, gqS, mqS, noS, Mq.zero, cmG, flG, rwE, hk0])
        exact fin0 _ (by rw [hnx, if_pos (by simpa using hk0)]) rfl
      | false =>
        have hkk : r.kind ≠ 0 := by simpa using hk0
        rw [if_neg hkk] at hnx
        have hl := cparse_len (b := c.inp) (by rw [hx]; exact hkk)
        have hs := skipC c.inp
        rw [hx] at hl hs
        obtain ⟨n, rfl⟩ : ∃ n : Nat, n0 = (n : Int) := ⟨n0.toNat, by have := hl.1; simp only at this; omega⟩
        obtain ⟨hl1, hl2⟩ := hl
        obtain ⟨hs1, hs2⟩ := hs
        simp only at hl1 hl2 hs1 hs2
        rw [Int.toNat_natCast] at hnx
        have hin := hok.inp
        obtain ⟨p, hp⟩ : ∃ p, min r.skip.toNat (c.inp.length - n) = p := ⟨_, rfl⟩
        have hpass : cnPass c r n = { c with inp := c.inp.drop (n + p), skip := r.skip - (p : Int) } := by unfold cnPass; rw [hp]
        rw [hpass] at hnx
        have d1 : IntKind.i64.wrap ((c.inp.length : Int) - (n : Int)) = (c.inp.length : Int) - (n : Int) := IntWalk.i64_in _ (by omega)
        have d2 : (if (c.inp.length : Int) - (n : Int) < r.skip then (c.inp.length : Int) - (n : Int) else r.skip) = (p : Int) := by split <;> omega
        have d3 : IntKind.i64.wrap ((n : Int) + (p : Int)) = ((n + p : Nat) : Int) := by rw [IntWalk.i64_in _ (by omega)]; rfl
        have d4 : (0 : Int) ≤ ((n + p : Nat) : Int) := by omega
        have d5 : ((n + p : Nat) : Int) ≤ (c.inp.length : Int) := by omega
        have d6 : IntKind.i64.wrap (r.skip - (p : Int)) = r.skip - (p : Int) := IntWalk.i64_in _ (by omega)
        (refine VT_ok hctr (rs := res13) true 300 _ _ _ ?_; simp (maxSteps := 1000000) only [VT, jf, jg, jZ, ja, jd, je, VC, qA, qB, qC, qD, qE, qF, qG, qH, qI, qJ, qK, qL, qM, qN, qO, qP, qQ, qR, qS, qT, qU, qV, qW, qX, qY, qZ, qe, qf, qg, qh, qj, qk, ql, qm, qn, qo, qp, qq, q0t, qu, qv, ev, qw, qy, qz, zA, zB, zC, zD, zE, zF, zG, zH, zI, zJ, TE.sv, zK, zL, zM, ↓reduceIte, reduceCtorEq, Value.oneCell', Nat.reduceEqDiff, Nat.reduceAdd, Nat.reduceLT, Nat.reduceBEq, Nat.reduceSub, Nat.reduceLeDiff, zP, zQ, zR, zS, zT, zU, zV, zW, zX, zY, zZ, za, zb, zc, zd, ze, zf, zg, zh, zi, zj, zk, zl, zm, zn, zo, zp, zq, zr, zt, zu, zw, zx, zy, zz, cE, jA, jB, hap, killE, deadOf, rwE, cD, cO, jC, jD, jE, jF, jG, jH, jI, jJ, jK, jL, jM, jN, jO, jP, jQ, jR, jS, jT, jU, jV, jW, jX, jY, hP, hk, res13, kp13, nxC, cnE, cnS, Int.toNat_natCast, Int.le_refl, List.drop_zero, pgV, gqZ, gqS, mqS, noS, Mq.zero, cmG, flG, rwE, hk0])
        (refine Run_drawD hctr (by rw [hP]; rfl) rs13_6 [] (ensure_type_of% (Cmp.of (by simp (maxSteps := 1000000) only [VC, qA, qB, qC, qD, qE, qF, qG, qH, qI, qJ, qK, qL, qM, qN, qO, qP, qQ, qR, qS, qT, qU, qV, qW, qX, qY, qZ, qe, qf, qg, qh, qj, qk, ql, qm, qn, qo, qp, qq, q0t, qu, qv, ev, qw, qy, qz, zA, zB, zC, zD, zE, zF, zG, zH, zI, zJ, TE.sv, zK, zL, zM, ↓reduceIte, reduceCtorEq, Value.oneCell', Nat.reduceEqDiff, Nat.reduceAdd, Nat.reduceLT, Nat.reduceBEq, Nat.reduceSub, Nat.reduceLeDiff, zP, zQ, zR, zS, zT, zU, zV, zW, zX, zY, zZ, za, zb, zc, zd, ze, zf, zg, zh, zi, zj, zk, zl, zm, zn, zo, zp, zq, zr, zt, zu, zw, zx, zy, zz, cE, jA, jB, hap, killE, deadOf, rwE, cD, cO, jC, jD, jE, jF, jG, jH, jI, jJ, jK, jL, jM, jN, jO, jP, jQ, jR, jS, jT, jU, jV, jW, jX, jY, hP, nxC, cnE, cnS, Int.toNat_natCast, Int.le_refl, List.drop_zero, pgV, gqZ, gqS, mqS, noS, Mq.zero, cmG, flG, rwE, d1, d2]; rfl)) "" Cmp.mk) (by kernel_rfl) (by kernel_rfl) (by first | exact lenB_one _ | kernel_rfl) (by kernel_rfl) (by rfl) (by rfl) (by first | exact firstN_self _ | rfl) (by rfl) (by simp (maxSteps := 1000000) only [VC, qA, qB, qC, qD, qE, qF, qG, qH, qI, qJ, qK, qL, qM, qN, qO, qP, qQ, qR, qS, qT, qU, qV, qW, qX, qY, qZ, qe, qf, qg, qh, qj, qk, ql, qm, qn, qo, qp, qq, q0t, qu, qv, ev, qw, qy, qz, zA, zB, zC, zD, zE, zF, zG, zH, zI, zJ, TE.sv, zK, zL, zM, ↓reduceIte, reduceCtorEq, Value.oneCell', Nat.reduceEqDiff, Nat.reduceAdd, Nat.reduceLT, Nat.reduceBEq, Nat.reduceSub, Nat.reduceLeDiff, zP, zQ, zR, zS, zT, zU, zV, zW, zX, zY, zZ, za, zb, zc, zd, ze, zf, zg, zh, zi, zj, zk, zl, zm, zn, zo, zp, zq, zr, zt, zu, zw, zx, zy, zz, cE, jA, jB, hap, killE, deadOf, rwE, cD, cO, jC, jD, jE, jF, jG, jH, jI, jJ, jK, jL, jM, jN, jO, jP, jQ, jR, jS, jT, jU, jV, jW, jX, jY, hP, nxC, cnE, cnS, Int.toNat_natCast, Int.le_refl, List.drop_zero, pgV, gqZ, gqS, mqS, noS, Mq.zero, cmG, flG, rwE, d1, d2]) ?_; refine VT_ok hctr (rs := res13) true 300 _ _ _ ?_; simp (maxSteps := 1000000) only [VT, jf, jg, jZ, ja, jd, je, VC, qA, qB, qC, qD, qE, qF, qG, qH, qI, qJ, qK, qL, qM, qN, qO, qP, qQ, qR, qS, qT, qU, qV, qW, qX, qY, qZ, qe, qf, qg, qh, qj, qk, ql, qm, qn, qo, qp, qq, q0t, qu, qv, ev, qw, qy, qz, zA, zB, zC, zD, zE, zF, zG, zH, zI, zJ, TE.sv, zK, zL, zM, ↓reduceIte, reduceCtorEq, Value.oneCell', Nat.reduceEqDiff, Nat.reduceAdd, Nat.reduceLT, Nat.reduceBEq, Nat.reduceSub, Nat.reduceLeDiff, zP, zQ, zR, zS, zT, zU, zV, zW, zX, zY, zZ, za, zb, zc, zd, ze, zf, zg, zh, zi, zj, zk, zl, zm, zn, zo, zp, zq, zr, zt, zu, zw, zx, zy, zz, cE, jA, jB, hap, killE, deadOf, rwE, cD, cO, jC, jD, jE, jF, jG, jH, jI, jJ, jK, jL, jM, jN, jO, jP, jQ, jR, jS, jT, jU, jV, jW, jX, jY, hP, hk, res13, kp13, nxC, cnE, cnS, Int.toNat_natCast, Int.le_refl, List.drop_zero, pgV, gqZ, gqS, mqS, noS, Mq.zero, cmG, flG, rwE, d1, d2])
        cases hcl : r.close with
        | false =>
          rw [hcl, if_neg (by simp)] at hnx
          (refine Run_drawD hctr (by rw [hP]; rfl) rs13_7 [] (ensure_type_of% (Cmp.of (by simp (maxSteps := 1000000) only [VC, qA, qB, qC, qD, qE, qF, qG, qH, qI, qJ, qK, qL, qM, qN, qO, qP, qQ, qR, qS, qT, qU, qV, qW, qX, qY, qZ, qe, qf, qg, qh, qj, qk, ql, qm, qn, qo, qp, qq, q0t, qu, qv, ev, qw, qy, qz, zA, zB, zC, zD, zE, zF, zG, zH, zI, zJ, TE.sv, zK, zL, zM, ↓reduceIte, reduceCtorEq, Value.oneCell', Nat.reduceEqDiff, Nat.reduceAdd, Nat.reduceLT, Nat.reduceBEq, Nat.reduceSub, Nat.reduceLeDiff, zP, zQ, zR, zS, zT, zU, zV, zW, zX, zY, zZ, za, zb, zc, zd, ze, zf, zg, zh, zi, zj, zk, zl, zm, zn, zo, zp, zq, zr, zt, zu, zw, zx, zy, zz, cE, jA, jB, hap, killE, deadOf, rwE, cD, cO, jC, jD, jE, jF, jG, jH, jI, jJ, jK, jL, jM, jN, jO, jP, jQ, jR, jS, jT, jU, jV, jW, jX, jY, hP, nxC, cnE, cnS, Int.toNat_natCast, Int.le_refl, List.drop_zero, pgV, gqZ, gqS, mqS, noS, Mq.zero, cmG, flG, rwE, d3, d4, d5, d6, hcl, List.take_length]; rfl)) "" Cmp.mk) (by kernel_rfl) (by kernel_rfl) (by first | exact lenB_one _ | kernel_rfl) (by kernel_rfl) (by rfl) (by rfl) (by first | exact firstN_self _ | rfl) (by rfl) (by simp (maxSteps := 1000000) only [VC, qA, qB, qC, qD, qE, qF, qG, qH, qI, qJ, qK, qL, qM, qN, qO, qP, qQ, qR, qS, qT, qU, qV, qW, qX, qY, qZ, qe, qf, qg, qh, qj, qk, ql, qm, qn, qo, qp, qq, q0t, qu, qv, ev, qw, qy, qz, zA, zB, zC, zD, zE, zF, zG, zH, zI, zJ, TE.sv, zK, zL, zM, ↓reduceIte, reduceCtorEq, Value.oneCell', Nat.reduceEqDiff, Nat.reduceAdd, Nat.reduceLT, Nat.reduceBEq, Nat.reduceSub, Nat.reduceLeDiff, zP, zQ, zR, zS, zT, zU, zV, zW, zX, zY, zZ, za, zb, zc, zd, ze, zf, zg, zh, zi, zj, zk, zl, zm, zn, zo, zp, zq, zr, zt, zu, zw, zx, zy, zz, cE, jA, jB, hap, killE, deadOf, rwE, cD, cO, jC, jD, jE, jF, jG, jH, jI, jJ, jK, jL, jM, jN, jO, jP, jQ, jR, jS, jT, jU, jV, jW, jX, jY, hP, nxC, cnE, cnS, Int.toNat_natCast, Int.le_refl, List.drop_zero, pgV, gqZ, gqS, mqS, noS, Mq.zero, cmG, flG, rwE, d3, d4, d5, d6, hcl, List.take_length]) ?_; refine VT_ok hctr (rs := res13) true 300 _ _ _ ?_; simp (maxSteps := 1000000) only [VT, jf, jg, jZ, ja, jd, je, VC, qA, qB, qC, qD, qE, qF, qG, qH, qI, qJ, qK, qL, qM, qN, qO, qP, qQ, qR, qS, qT, qU, qV, qW, qX, qY, qZ, qe, qf, qg, qh, qj, qk, ql, qm, qn, qo, qp, qq, q0t, qu, qv, ev, qw, qy, qz, zA, zB, zC, zD, zE, zF, zG, zH, zI, zJ, TE.sv, zK, zL, zM, ↓reduceIte, reduceCtorEq, Value.oneCell', Nat.reduceEqDiff, Nat.reduceAdd, Nat.reduceLT, Nat.reduceBEq, Nat.reduceSub, Nat.reduceLeDiff, zP, zQ, zR, zS, zT, zU, zV, zW, zX, zY, zZ, za, zb, zc, zd, ze, zf, zg, zh, zi, zj, zk, zl, zm, zn, zo, zp, zq, zr, zt, zu, zw, zx, zy, zz, cE, jA, jB, hap, killE, deadOf, rwE, cD, cO, jC, jD, jE, jF, jG, jH, jI, jJ, jK, jL, jM, jN, jO, jP, jQ, jR, jS, jT, jU, jV, jW, jX, jY, hP, hk, res13, kp13, nxC, cnE, cnS, Int.toNat_natCast, Int.le_refl, List.drop_zero, pgV, gqZ, gqS, mqS, noS, Mq.zero, cmG, flG, rwE, d3, d4, d5, d6, hcl, List.take_length])
          exact fin1 _ r _ _ hnx (by simp only [gqZ, gqS, hcl]) rfl rfl rfl
        | true =>
          rw [hcl, if_pos rfl] at hnx
          (refine Run_drawD hctr (by rw [hP]; rfl) rs13_7 [] (ensure_type_of% (Cmp.of (by simp (maxSteps := 1000000) only [VC, qA, qB, qC, qD, qE, qF, qG, qH, qI, qJ, qK, qL, qM, qN, qO, qP, qQ, qR, qS, qT, qU, qV, qW, qX, qY, qZ, qe, qf, qg, qh, qj, qk, ql, qm, qn, qo, qp, qq, q0t, qu, qv, ev, qw, qy, qz, zA, zB, zC, zD, zE, zF, zG, zH, zI, zJ, TE.sv, zK, zL, zM, ↓reduceIte, reduceCtorEq, Value.oneCell', Nat.reduceEqDiff, Nat.reduceAdd, Nat.reduceLT, Nat.reduceBEq, Nat.reduceSub, Nat.reduceLeDiff, zP, zQ, zR, zS, zT, zU, zV, zW, zX, zY, zZ, za, zb, zc, zd, ze, zf, zg, zh, zi, zj, zk, zl, zm, zn, zo, zp, zq, zr, zt, zu, zw, zx, zy, zz, cE, jA, jB, hap, killE, deadOf, rwE, cD, cO, jC, jD, jE, jF, jG, jH, jI, jJ, jK, jL, jM, jN, jO, jP, jQ, jR, jS, jT, jU, jV, jW, jX, jY, hP, nxC, cnE, cnS, Int.toNat_natCast, Int.le_refl, List.drop_zero, pgV, gqZ, gqS, mqS, noS, Mq.zero, cmG, flG, rwE, d3, d4, d5, d6, hcl, List.take_length]; rfl)) "" Cmp.mk) (by kernel_rfl) (by kernel_rfl) (by first | exact lenB_one _ | kernel_rfl) (by kernel_rfl) (by rfl) (by rfl) (by first | exact firstN_self _ | rfl) (by rfl) (by simp (maxSteps := 1000000) only [VC, qA, qB, qC, qD, qE, qF, qG, qH, qI, qJ, qK, qL, qM, qN, qO, qP, qQ, qR, qS, qT, qU, qV, qW, qX, qY, qZ, qe, qf, qg, qh, qj, qk, ql, qm, qn, qo, qp, qq, q0t, qu, qv, ev, qw, qy, qz, zA, zB, zC, zD, zE, zF, zG, zH, zI, zJ, TE.sv, zK, zL, zM, ↓reduceIte, reduceCtorEq, Value.oneCell', Nat.reduceEqDiff, Nat.reduceAdd, Nat.reduceLT, Nat.reduceBEq, Nat.reduceSub, Nat.reduceLeDiff, zP, zQ, zR, zS, zT, zU, zV, zW, zX, zY, zZ, za, zb, zc, zd, ze, zf, zg, zh, zi, zj, zk, zl, zm, zn, zo, zp, zq, zr, zt, zu, zw, zx, zy, zz, cE, jA, jB, hap, killE, deadOf, rwE, cD, cO, jC, jD, jE, jF, jG, jH, jI, jJ, jK, jL, jM, jN, jO, jP, jQ, jR, jS, jT, jU, jV, jW, jX, jY, hP, nxC, cnE, cnS, Int.toNat_natCast, Int.le_refl, List.drop_zero, pgV, gqZ, gqS, mqS, noS, Mq.zero, cmG, flG, rwE, d3, d4, d5, d6, hcl, List.take_length]) ?_; refine VT_ok hctr (rs := res13) true 300 _ _ _ ?_; simp (maxSteps := 1000000) only [VT, jf, jg, jZ, ja, jd, je, VC, qA, qB, qC, qD, qE, qF, qG, qH, qI, qJ, qK, qL, qM, qN, qO, qP, qQ, qR, qS, qT, qU, qV, qW, qX, qY, qZ, qe, qf, qg, qh, qj, qk, ql, qm, qn, qo, qp, qq, q0t, qu, qv, ev, qw, qy, qz, zA, zB, zC, zD, zE, zF, zG, zH, zI, zJ, TE.sv, zK, zL, zM, ↓reduceIte, reduceCtorEq, Value.oneCell', Nat.reduceEqDiff, Nat.reduceAdd, Nat.reduceLT, Nat.reduceBEq, Nat.reduceSub, Nat.reduceLeDiff, zP, zQ, zR, zS, zT, zU, zV, zW, zX, zY, zZ, za, zb, zc, zd, ze, zf, zg, zh, zi, zj, zk, zl, zm, zn, zo, zp, zq, zr, zt, zu, zw, zx, zy, zz, cE, jA, jB, hap, killE, deadOf, rwE, cD, cO, jC, jD, jE, jF, jG, jH, jI, jJ, jK, jL, jM, jN, jO, jP, jQ, jR, jS, jT, jU, jV, jW, jX, jY, hP, hk, res13, kp13, nxC, cnE, cnS, Int.toNat_natCast, Int.le_refl, List.drop_zero, pgV, gqZ, gqS, mqS, noS, Mq.zero, cmG, flG, rwE, d3, d4, d5, d6, hcl, List.take_length])
          refine Run_cn (N := 0) (c := { c with inp := c.inp.drop (n + p), skip := r.skip - (p : Int) }) (cnHang { c with inp := c.inp.drop (n + p), skip := r.skip - (p : Int) }) (ys := []) (.t []) rfl hP rfl (by simp [zG]) (fun args w => Tryz.call19 args w) (fun pr x hx => by cases hx) (fun ρ w g h => hang_w h) rfl (by simp) ?_
          (refine VT_ok hctr (rs := res13) true 300 _ _ _ ?_; simp (maxSteps := 1000000) only [VT, jf, jg, jZ, ja, jd, je, VC, qA, qB, qC, qD, qE, qF, qG, qH, qI, qJ, qK, qL, qM, qN, qO, qP, qQ, qR, qS, qT, qU, qV, qW, qX, qY, qZ, qe, qf, qg, qh, qj, qk, ql, qm, qn, qo, qp, qq, q0t, qu, qv, ev, qw, qy, qz, zA, zB, zC, zD, zE, zF, zG, zH, zI, zJ, TE.sv, zK, zL, zM, ↓reduceIte, reduceCtorEq, Value.oneCell', Nat.reduceEqDiff, Nat.reduceAdd, Nat.reduceLT, Nat.reduceBEq, Nat.reduceSub, Nat.reduceLeDiff, zP, zQ, zR, zS, zT, zU, zV, zW, zX, zY, zZ, za, zb, zc, zd, ze, zf, zg, zh, zi, zj, zk, zl, zm, zn, zo, zp, zq, zr, zt, zu, zw, zx, zy, zz, cE, jA, jB, hap, killE, deadOf, rwE, cD, cO, jC, jD, jE, jF, jG, jH, jI, jJ, jK, jL, jM, jN, jO, jP, jQ, jR, jS, jT, jU, jV, jW, jX, jY, hP, hk, res13, kp13, nxC, cnE, cnS, Int.toNat_natCast, Int.le_refl, List.drop_zero, pgV, gqZ, gqS, mqS, noS, Mq.zero, cmG, flG, rwE, cnHang])
          exact fin1 _ r _ _ hnx (by simp only [gqZ, gqS, hcl]) rfl rfl rfl
end Go.Proofs.YtehfcboiimdkbaaGreatDoor
