/- The request with which a connection's bytes begin (conn.parse), walked. Printed by gen_cp.py. -/
import Derived.Test.YtehfcboiimdkbaaGreatDoorCCcn
import Derived.Test.YtehfcboiimdkbaaGreatDoorCShelfM
namespace Go.Proofs.YtehfcboiimdkbaaGreatDoor
set_option linter.unusedSimpArgs false
set_option linter.unusedVariables false
set_option linter.unusedSimpArgs false
set_option linter.unusedVariables false
set_option maxHeartbeats 8000000
open Go.RowKit
set_option maxRecDepth 100000
def rowCutSp : List SV → Option (Prop × SV)
  | [.c (.s l), .c (.s [32])] => some (l.length < 4294967281, .t [.c (.s (l.takeWhile (· != 32))), .c (.s ((l.dropWhile (· != 32)).drop 1)), .c (.b (Lib.cut l [32]).2.2)])
  | _ => none
def rowTrimL : List SV → Option (Prop × SV)
  | [.c (.s l), .c (.s [32])] => some (True, .c (.s (l.dropWhile (· == 32))))
  | _ => none
def rowIBc : List SV → Option (Prop × SV)
  | [.c (.s l), .c (.i .u8 c)] => some (True, .c (.i .i64 (Lib.indexByte l c.toNat.toUInt8)))
  | _ => none
def cpC : Ctr := fun f _ xs => match f with
  | 22 => (match xs with
    | [.c (.s l)] => some (l.length < 4294967281, .t [.c (.s (lineV l).1), .c (.i .i64 (((lineV l).2 : Nat) : Int))])
    | _ => none)
  | 23 => rowCutSp xs
  | 24 => rowTrimL xs
  | 25 => rowIBc xs
  | _ => none
theorem cpC_ok {C : Cx} (hP : C.P = Tryz.prog) (hE : ∀ w, Upd C.S C.w0 w → EnvT w) : CtrOk C cpC := by
  intro f en xs p v h hp ρ w hup hHp hHo hinj hwf
  unfold cpC at h
  split at h
  · rw [hP]
    refine ⟨fun args w => Tryz.call22 args w, ?_⟩
    split at h <;> simp only [Option.some.injEq, Prod.mk.injEq, reduceCtorEq] at h
    obtain ⟨rfl, rfl⟩ := h
    exact ⟨by intro x hx; simp at hx; rcases hx with rfl | rfl <;> trivial, line_w _ hp w (hE w hup)⟩
  · rw [hP]
    refine ⟨fun args w => Tryz.call23 args w, ?_⟩
    unfold rowCutSp at h
    split at h <;> simp only [Option.some.injEq, Prod.mk.injEq, reduceCtorEq] at h
    rename_i l
    obtain ⟨rfl, rfl⟩ := h
    refine ⟨by intro x hx; simp at hx; rcases hx with rfl | rfl | rfl <;> trivial, ?_⟩
    obtain ⟨m, hm⟩ := (hE w hup).max
    have := Tryz.strings_Cut ⟨l.toArray⟩ ⟨#[32]⟩ m w (by simpa [ByteArray.size] using hp) hm
    have e1 : (⟨l.toArray⟩ : ByteArray).data.toList = l := rfl
    have e2 : (⟨#[32]⟩ : ByteArray).data.toList = [32] := rfl
    rw [e1, e2, (cut_one 32 l).1, (cut_one 32 l).2] at this
    refine this.mono ?_
    rintro e w' ⟨rfl, q, rfl⟩
    exact ⟨rfl, rfl, rfl, rfl, Nat.le_refl _, fun _ _ => rfl⟩
  · rw [hP]
    refine ⟨fun args w => Tryz.call24 args w, ?_⟩
    unfold rowTrimL at h
    split at h <;> simp only [Option.some.injEq, Prod.mk.injEq, reduceCtorEq] at h
    rename_i l
    obtain ⟨rfl, rfl⟩ := h
    refine ⟨trivial, (Tryz.strings_TrimLeft_one ⟨l.toArray⟩ 32 (by decide) w).mono ?_⟩
    rintro e w' ⟨rfl, rfl⟩
    exact ⟨rfl, Below.refl _ _⟩
  · rw [hP]
    refine ⟨fun args w => Tryz.call25 args w, ?_⟩
    unfold rowIBc at h
    split at h <;> simp only [Option.some.injEq, Prod.mk.injEq, reduceCtorEq] at h
    rename_i l c
    obtain ⟨rfl, rfl⟩ := h
    refine ⟨trivial, (Tryz.strings_IndexByte ⟨l.toArray⟩ c w).mono ?_⟩
    rintro e w' ⟨rfl, rfl⟩
    exact ⟨rfl, Below.refl _ _⟩
  · cases h
theorem ib6 (x : UInt8) : decide ((0 : Int) ≤ Lib.indexByte [110, 101, 103, 115, 100, 97] x) = [110, 101, 103, 115, 100, 97].contains x := con_ib _ x
theorem takeW_le (p : UInt8 → Bool) (b : List UInt8) : (b.takeWhile p).length ≤ b.length := (List.takeWhile_sublist p).length_le
theorem cparse_w (b : List UInt8) (hb : b.length ≤ 9223372036854775806) (w : World) (hE0 : EnvT w) : Calls Tryz.prog 20 #[.string ⟨b.toArray⟩] w (GPost w (cParse b)) := by
  refine calls_of_Run Tryz.func20 rfl kp20 (S := Non) (ρ := fun _ => reOf 0) (en := []) [.c (.s b)] Tryz.ntmps20 (At.nil _ _ _) (by simp [SV.wf, SC.wf]) (by simp) ?_
  intro C hC hP hk
  have hE : ∀ w', Upd C.S C.w0 w' → EnvT w' := fun w' hu => by rw [hC] at hu; exact hE0.below hu.to_below
  have hctr := cpC_ok hP hE
  have hS : C.S = Non := by rw [hC]; rfl
  have hw0 : C.w0 = w := by rw [hC]; rfl
  have hn0 : C.n0 = 0 := by rw [hC]; rfl
  obtain ⟨k, hk2⟩ : ∃ k : Int, (if (2048 : Int) < (b.length : Int) then 2048 else (b.length : Int)) = k := ⟨_, rfl⟩
  have hkk : k = ((b.take 2048).length : Int) := by rw [← hk2, List.length_take]; split <;> omega
  have hkt : b.take k.toNat = b.take 2048 := by
    rw [hkk, Int.toNat_natCast, List.length_take, List.take_eq_take_iff]; omega
  have k0 : 0 ≤ k := by omega
  have k1 : k ≤ (b.length : Int) := by rw [hkk, List.length_take]; omega
  have kl : (b.take 2048).length < 4294967281 := by rw [List.length_take]; omega
  obtain ⟨s, n, hsn⟩ : ∃ s n, lineV (b.take 2048) = (s, n) := ⟨_, _, rfl⟩
  have hsl : s.length ≤ 2048 := by
    have e : (lineV (b.take 2048)).1.length ≤ (b.take 2048).length := by
      unfold lineV
      simp only
      have hl := takeW_le (fun c : UInt8 => c != 10) (b.take 2048)
      split
      · split
        · rw [List.length_dropLast]; omega
        · exact hl
      · exact Nat.zero_le _
    rw [hsn] at e
    rw [List.length_take] at e
    simp only at e; omega
  have hds := (List.dropWhile_sublist (p := (· == (32 : UInt8))) (l := s)).length_le
  have kd : (s.dropWhile (· == 32)).length < 4294967281 := by omega
  obtain ⟨nm, hnm⟩ : ∃ nm, (s.dropWhile (· == 32)).takeWhile (· != 32) = nm := ⟨_, rfl⟩
  have hfw : firstW b = nm := by unfold firstW; rw [hsn]; exact hnm
  have hpost : ∀ (x : Gq × Int) en, zD en 1 = some (cmG x.1) → zD en 2 = some (flG x.1) → 3 ≤ en.length → cParse b = x → Fin C res20 (.t [.g (gqZ x.1 1), .c (.i .i64 x.2)]) en := fun x en h1 h2 hlen hx => by
    refine Fin_cx (v := .t [.g (gqZ x.1 1), .c (.i .i64 x.2)]) hC hres20 fun ρ w' hw _ _ => ?_
    have hup := hw.up
    rw [hC] at hup
    have k1 := RowOk.of (N := 1) (n := x.1.cmds.length) (z := 16) (e := 54) (cells := flatG ecS x.1.cmds) hw hS h1 (by decide)
    have k2 := RowOk.of (N := 2) (n := x.1.flags.length) (z := 1) (e := 9) (cells := x.1.flags.map SC.s) hw hS h2 (by decide)
    rw [hw0] at k1 k2
    rw [ec_den] at k1
    rw [st_den] at k2
    rw [hx]
    refine ⟨hup.to_below, _, rfl, ⟨ρ 1, ρ 2, rfl, k1, k2, fun h3 h4 he => ?_⟩⟩
    have := hw.inj 1 2 (by show 1 < en.length; omega) (by show 2 < en.length; omega) ((deadE_of h1).2 ⟨by show ¬ ((54 : Nat) = DEAD); decide, h3⟩) ((deadE_of h2).2 ⟨by show ¬ ((9 : Nat) = DEAD); decide, h4⟩) he
    cases this
  have enm : ∀ (x : Gq × Int) q, q ≠ 1 → q ≠ 1 + 1 → zD [⟨(30, 0, whole), mqS noS noS Mq.zero, true⟩, cmG x.1, flG x.1] q = zD [⟨(30, 0, whole), mqS noS noS Mq.zero, true⟩] q := fun x q h1 h2 => by
    match q with
    | 0 => rfl
    | 1 => exact absurd rfl h1
    | 2 => exact absurd rfl h2
    | _ + 3 => rfl
  by_cases h2 : nm.length = 2
  · obtain ⟨m, x, rfl⟩ : ∃ m x, nm = [m, x] := by
      match nm, h2 with
      | [m, x], _ => exact ⟨m, x, rfl⟩
    have e0 : (((2 : Nat) : Int) == 2) = true := rfl
    have e1 : ([m, x] : List UInt8).length = 2 := rfl
    have q0 : (0 : Int) ≤ 0 := by decide
    have q1 : (0 : Int) < ((2 : Nat) : Int) := by decide
    have q2 : (0 : Int) ≤ 1 := by decide
    have q3 : (1 : Int) < ((2 : Nat) : Int) := by decide
    have g0 : ([m, x] : List UInt8).getD 0 0 = m := rfl
    have g1 : ([m, x] : List UInt8).getD 1 0 = x := rfl
    have u1 : x.toNat.toUInt8 = x := UInt8.ofNat_toNat
    by_cases hm : m = 109
    · have e2 : ((m.toNat : Int) == 109) = true := by rw [hm]; rfl
      cases hx6 : decide ((0 : Int) ≤ Lib.indexByte [110, 101, 103, 115, 100, 97] x) with
      | true =>
        have hmb : metaB [m, x] = true := by
          subst hm
          show ((109 : UInt8) == 109 && [110, 101, 103, 115, 100, 97].contains x) = true
          rw [← ib6, hx6]; rfl
        obtain ⟨xq, hxq⟩ : ∃ xq : Gq × Int, (gqM (mParse b).1, (mParse b).2) = xq := ⟨_, rfl⟩
        have hcp : cParse b = xq := by unfold cParse; rw [hfw]; simp only [hmb, if_true, Bool.false_eq_true, if_false]; exact hxq
        (refine VT_ok hctr (rs := res20) true 300 _ _ _ ?_; simp (maxSteps := 1000000) only [VT, jf, jg, jZ, ja, jd, je, VC, qA, qB, qC, qD, qE, qF, qG, qH, qI, qJ, qK, qL, qM, qN, qO, qP, qQ, qR, qS, qT, qU, qV, qW, qX, qY, qZ, qe, qf, qg, qh, qj, qk, ql, qm, qn, qo, qp, qq, q0t, qu, qv, ev, qw, qy, qz, zA, zB, zC, zD, zE, zF, zG, zH, zI, zJ, TE.sv, zK, zL, zM, ↓reduceIte, reduceCtorEq, Value.oneCell', Nat.reduceEqDiff, Nat.reduceAdd, Nat.reduceLT, Nat.reduceBEq, Nat.reduceSub, Nat.reduceLeDiff, zP, zQ, zR, zS, zT, zU, zV, zW, zX, zY, zZ, za, zb, zc, zd, ze, zf, zg, zh, zi, zj, zk, zl, zm, zn, zo, zp, zq, zr, zt, zu, zw, zx, zy, zz, cE, jA, jB, hap, killE, deadOf, rwE, cD, cO, jC, jD, jE, jF, jG, jH, jI, jJ, jK, jL, jM, jN, jO, jP, jQ, jR, jS, jT, jU, jV, jW, jX, jY, hP, hk, res20, kp20, cpC, rowCutSp, rowTrimL, rowIBc, Int.toNat_natCast, Int.toNat_zero, Int.toNat_one, Int.le_refl, List.drop_zero, k0, k1, kl, kd, hk2, hkt, hsn, hnm, e0, e1, q0, q1, q2, q3, g0, g1, u1, e2, hx6])
        refine Run_hcall rfl (pgV xq 1) [⟨(30, 0, whole), mqS noS noS Mq.zero, true⟩, cmG xq.1, flG xq.1] (gparse_h (C := C) (N := 1) (ys := [.c (.s b)]) hP (fun args w => Tryz.call26 args w) (fun ρ w hu => by rw [← hxq]; exact mparse_g (by omega) (hE w hu)) (fun q => by simp only [zG]; omega) (by rw [hn0]; exact Nat.zero_le _) rfl rfl (enm xq)) (by simp [zG]) (by simp) ?_
        (refine VT_ok hctr (rs := res20) true 300 _ _ _ ?_; simp (maxSteps := 1000000) only [VT, jf, jg, jZ, ja, jd, je, VC, qA, qB, qC, qD, qE, qF, qG, qH, qI, qJ, qK, qL, qM, qN, qO, qP, qQ, qR, qS, qT, qU, qV, qW, qX, qY, qZ, qe, qf, qg, qh, qj, qk, ql, qm, qn, qo, qp, qq, q0t, qu, qv, ev, qw, qy, qz, zA, zB, zC, zD, zE, zF, zG, zH, zI, zJ, TE.sv, zK, zL, zM, ↓reduceIte, reduceCtorEq, Value.oneCell', Nat.reduceEqDiff, Nat.reduceAdd, Nat.reduceLT, Nat.reduceBEq, Nat.reduceSub, Nat.reduceLeDiff, zP, zQ, zR, zS, zT, zU, zV, zW, zX, zY, zZ, za, zb, zc, zd, ze, zf, zg, zh, zi, zj, zk, zl, zm, zn, zo, zp, zq, zr, zt, zu, zw, zx, zy, zz, cE, jA, jB, hap, killE, deadOf, rwE, cD, cO, jC, jD, jE, jF, jG, jH, jI, jJ, jK, jL, jM, jN, jO, jP, jQ, jR, jS, jT, jU, jV, jW, jX, jY, hP, hk, res20, kp20, cpC, rowCutSp, rowTrimL, rowIBc, Int.toNat_natCast, Int.toNat_zero, Int.toNat_one, Int.le_refl, List.drop_zero, pgV, gqZ, gqS, mqS, noS, Mq.zero])
        exact hpost xq _ rfl rfl (by simp) hcp
      | false =>
        have hmb : metaB [m, x] = false := by
          subst hm
          show ((109 : UInt8) == 109 && [110, 101, 103, 115, 100, 97].contains x) = false
          rw [← ib6, hx6]; rfl
        obtain ⟨xq, hxq⟩ : ∃ xq : Gq × Int, (gqT (tParse b).1, (tParse b).2) = xq := ⟨_, rfl⟩
        have hcp : cParse b = xq := by unfold cParse; rw [hfw]; simp only [hmb, if_true, Bool.false_eq_true, if_false]; exact hxq
        (refine VT_ok hctr (rs := res20) true 300 _ _ _ ?_; simp (maxSteps := 1000000) only [VT, jf, jg, jZ, ja, jd, je, VC, qA, qB, qC, qD, qE, qF, qG, qH, qI, qJ, qK, qL, qM, qN, qO, qP, qQ, qR, qS, qT, qU, qV, qW, qX, qY, qZ, qe, qf, qg, qh, qj, qk, ql, qm, qn, qo, qp, qq, q0t, qu, qv, ev, qw, qy, qz, zA, zB, zC, zD, zE, zF, zG, zH, zI, zJ, TE.sv, zK, zL, zM, ↓reduceIte, reduceCtorEq, Value.oneCell', Nat.reduceEqDiff, Nat.reduceAdd, Nat.reduceLT, Nat.reduceBEq, Nat.reduceSub, Nat.reduceLeDiff, zP, zQ, zR, zS, zT, zU, zV, zW, zX, zY, zZ, za, zb, zc, zd, ze, zf, zg, zh, zi, zj, zk, zl, zm, zn, zo, zp, zq, zr, zt, zu, zw, zx, zy, zz, cE, jA, jB, hap, killE, deadOf, rwE, cD, cO, jC, jD, jE, jF, jG, jH, jI, jJ, jK, jL, jM, jN, jO, jP, jQ, jR, jS, jT, jU, jV, jW, jX, jY, hP, hk, res20, kp20, cpC, rowCutSp, rowTrimL, rowIBc, Int.toNat_natCast, Int.toNat_zero, Int.toNat_one, Int.le_refl, List.drop_zero, k0, k1, kl, kd, hk2, hkt, hsn, hnm, e0, e1, q0, q1, q2, q3, g0, g1, u1, e2, hx6])
        refine Run_hcall rfl (pgV xq 1) [⟨(30, 0, whole), mqS noS noS Mq.zero, true⟩, cmG xq.1, flG xq.1] (gparse_h (C := C) (N := 1) (ys := [.c (.s b)]) hP (fun args w => Tryz.call27 args w) (fun ρ w hu => by rw [← hxq]; exact tparse_g (by omega) (hE w hu)) (fun q => by simp only [zG]; omega) (by rw [hn0]; exact Nat.zero_le _) rfl rfl (enm xq)) (by simp [zG]) (by simp) ?_
        (refine VT_ok hctr (rs := res20) true 300 _ _ _ ?_; simp (maxSteps := 1000000) only [VT, jf, jg, jZ, ja, jd, je, VC, qA, qB, qC, qD, qE, qF, qG, qH, qI, qJ, qK, qL, qM, qN, qO, qP, qQ, qR, qS, qT, qU, qV, qW, qX, qY, qZ, qe, qf, qg, qh, qj, qk, ql, qm, qn, qo, qp, qq, q0t, qu, qv, ev, qw, qy, qz, zA, zB, zC, zD, zE, zF, zG, zH, zI, zJ, TE.sv, zK, zL, zM, ↓reduceIte, reduceCtorEq, Value.oneCell', Nat.reduceEqDiff, Nat.reduceAdd, Nat.reduceLT, Nat.reduceBEq, Nat.reduceSub, Nat.reduceLeDiff, zP, zQ, zR, zS, zT, zU, zV, zW, zX, zY, zZ, za, zb, zc, zd, ze, zf, zg, zh, zi, zj, zk, zl, zm, zn, zo, zp, zq, zr, zt, zu, zw, zx, zy, zz, cE, jA, jB, hap, killE, deadOf, rwE, cD, cO, jC, jD, jE, jF, jG, jH, jI, jJ, jK, jL, jM, jN, jO, jP, jQ, jR, jS, jT, jU, jV, jW, jX, jY, hP, hk, res20, kp20, cpC, rowCutSp, rowTrimL, rowIBc, Int.toNat_natCast, Int.toNat_zero, Int.toNat_one, Int.le_refl, List.drop_zero, pgV, gqZ, gqS, mqS, noS, Mq.zero])
        exact hpost xq _ rfl rfl (by simp) hcp
    · have e2 : ((m.toNat : Int) == 109) = false := by
        rw [beq_eq_false_iff_ne]; intro h; exact hm (UInt8.toNat_inj.1 (by have : (109 : UInt8).toNat = 109 := rfl; omega))
      have hmb : metaB [m, x] = false := by
        have : (m == 109) = false := by simpa using hm
        show (m == 109 && [110, 101, 103, 115, 100, 97].contains x) = false
        rw [this]; rfl
      obtain ⟨xq, hxq⟩ : ∃ xq : Gq × Int, (gqT (tParse b).1, (tParse b).2) = xq := ⟨_, rfl⟩
      have hcp : cParse b = xq := by unfold cParse; rw [hfw]; simp only [hmb, if_true, Bool.false_eq_true, if_false]; exact hxq
      (refine VT_ok hctr (rs := res20) true 300 _ _ _ ?_; simp (maxSteps := 1000000) only [VT, jf, jg, jZ, ja, jd, je, VC, qA, qB, qC, qD, qE, qF, qG, qH, qI, qJ, qK, qL, qM, qN, qO, qP, qQ, qR, qS, qT, qU, qV, qW, qX, qY, qZ, qe, qf, qg, qh, qj, qk, ql, qm, qn, qo, qp, qq, q0t, qu, qv, ev, qw, qy, qz, zA, zB, zC, zD, zE, zF, zG, zH, zI, zJ, TE.sv, zK, zL, zM, ↓reduceIte, reduceCtorEq, Value.oneCell', Nat.reduceEqDiff, Nat.reduceAdd, Nat.reduceLT, Nat.reduceBEq, Nat.reduceSub, Nat.reduceLeDiff, zP, zQ, zR, zS, zT, zU, zV, zW, zX, zY, zZ, za, zb, zc, zd, ze, zf, zg, zh, zi, zj, zk, zl, zm, zn, zo, zp, zq, zr, zt, zu, zw, zx, zy, zz, cE, jA, jB, hap, killE, deadOf, rwE, cD, cO, jC, jD, jE, jF, jG, jH, jI, jJ, jK, jL, jM, jN, jO, jP, jQ, jR, jS, jT, jU, jV, jW, jX, jY, hP, hk, res20, kp20, cpC, rowCutSp, rowTrimL, rowIBc, Int.toNat_natCast, Int.toNat_zero, Int.toNat_one, Int.le_refl, List.drop_zero, k0, k1, kl, kd, hk2, hkt, hsn, hnm, e0, e1, q0, q1, q2, q3, g0, g1, u1, e2])
      refine Run_hcall rfl (pgV xq 1) [⟨(30, 0, whole), mqS noS noS Mq.zero, true⟩, cmG xq.1, flG xq.1] (gparse_h (C := C) (N := 1) (ys := [.c (.s b)]) hP (fun args w => Tryz.call27 args w) (fun ρ w hu => by rw [← hxq]; exact tparse_g (by omega) (hE w hu)) (fun q => by simp only [zG]; omega) (by rw [hn0]; exact Nat.zero_le _) rfl rfl (enm xq)) (by simp [zG]) (by simp) ?_
      (refine VT_ok hctr (rs := res20) true 300 _ _ _ ?_; simp (maxSteps := 1000000) only [VT, jf, jg, jZ, ja, jd, je, VC, qA, qB, qC, qD, qE, qF, qG, qH, qI, qJ, qK, qL, qM, qN, qO, qP, qQ, qR, qS, qT, qU, qV, qW, qX, qY, qZ, qe, qf, qg, qh, qj, qk, ql, qm, qn, qo, qp, qq, q0t, qu, qv, ev, qw, qy, qz, zA, zB, zC, zD, zE, zF, zG, zH, zI, zJ, TE.sv, zK, zL, zM, ↓reduceIte, reduceCtorEq, Value.oneCell', Nat.reduceEqDiff, Nat.reduceAdd, Nat.reduceLT, Nat.reduceBEq, Nat.reduceSub, Nat.reduceLeDiff, zP, zQ, zR, zS, zT, zU, zV, zW, zX, zY, zZ, za, zb, zc, zd, ze, zf, zg, zh, zi, zj, zk, zl, zm, zn, zo, zp, zq, zr, zt, zu, zw, zx, zy, zz, cE, jA, jB, hap, killE, deadOf, rwE, cD, cO, jC, jD, jE, jF, jG, jH, jI, jJ, jK, jL, jM, jN, jO, jP, jQ, jR, jS, jT, jU, jV, jW, jX, jY, hP, hk, res20, kp20, cpC, rowCutSp, rowTrimL, rowIBc, Int.toNat_natCast, Int.toNat_zero, Int.toNat_one, Int.le_refl, List.drop_zero, pgV, gqZ, gqS, mqS, noS, Mq.zero])
      exact hpost xq _ rfl rfl (by simp) hcp
  · have e0 : ((nm.length : Int) == 2) = false := by
      rw [beq_eq_false_iff_ne]; omega
    have hmb : metaB nm = false := by
      unfold metaB
      split
      · exact absurd rfl h2
      · rfl
    obtain ⟨xq, hxq⟩ : ∃ xq : Gq × Int, (gqT (tParse b).1, (tParse b).2) = xq := ⟨_, rfl⟩
    have hcp : cParse b = xq := by unfold cParse; rw [hfw]; simp only [hmb, if_true, Bool.false_eq_true, if_false]; exact hxq
    (refine VT_ok hctr (rs := res20) true 300 _ _ _ ?_; simp (maxSteps := 1000000) only [VT, jf, jg, jZ, ja, jd, je, VC, qA, qB, qC, qD, qE, qF, qG, qH, qI, qJ, qK, qL, qM, qN, qO, qP, qQ, qR, qS, qT, qU, qV, qW, qX, qY, qZ, qe, qf, qg, qh, qj, qk, ql, qm, qn, qo, qp, qq, q0t, qu, qv, ev, qw, qy, qz, zA, zB, zC, zD, zE, zF, zG, zH, zI, zJ, TE.sv, zK, zL, zM, ↓reduceIte, reduceCtorEq, Value.oneCell', Nat.reduceEqDiff, Nat.reduceAdd, Nat.reduceLT, Nat.reduceBEq, Nat.reduceSub, Nat.reduceLeDiff, zP, zQ, zR, zS, zT, zU, zV, zW, zX, zY, zZ, za, zb, zc, zd, ze, zf, zg, zh, zi, zj, zk, zl, zm, zn, zo, zp, zq, zr, zt, zu, zw, zx, zy, zz, cE, jA, jB, hap, killE, deadOf, rwE, cD, cO, jC, jD, jE, jF, jG, jH, jI, jJ, jK, jL, jM, jN, jO, jP, jQ, jR, jS, jT, jU, jV, jW, jX, jY, hP, hk, res20, kp20, cpC, rowCutSp, rowTrimL, rowIBc, Int.toNat_natCast, Int.toNat_zero, Int.toNat_one, Int.le_refl, List.drop_zero, k0, k1, kl, kd, hk2, hkt, hsn, hnm, e0])
    refine Run_hcall rfl (pgV xq 1) [⟨(30, 0, whole), mqS noS noS Mq.zero, true⟩, cmG xq.1, flG xq.1] (gparse_h (C := C) (N := 1) (ys := [.c (.s b)]) hP (fun args w => Tryz.call27 args w) (fun ρ w hu => by rw [← hxq]; exact tparse_g (by omega) (hE w hu)) (fun q => by simp only [zG]; omega) (by rw [hn0]; exact Nat.zero_le _) rfl rfl (enm xq)) (by simp [zG]) (by simp) ?_
    (refine VT_ok hctr (rs := res20) true 300 _ _ _ ?_; simp (maxSteps := 1000000) only [VT, jf, jg, jZ, ja, jd, je, VC, qA, qB, qC, qD, qE, qF, qG, qH, qI, qJ, qK, qL, qM, qN, qO, qP, qQ, qR, qS, qT, qU, qV, qW, qX, qY, qZ, qe, qf, qg, qh, qj, qk, ql, qm, qn, qo, qp, qq, q0t, qu, qv, ev, qw, qy, qz, zA, zB, zC, zD, zE, zF, zG, zH, zI, zJ, TE.sv, zK, zL, zM, ↓reduceIte, reduceCtorEq, Value.oneCell', Nat.reduceEqDiff, Nat.reduceAdd, Nat.reduceLT, Nat.reduceBEq, Nat.reduceSub, Nat.reduceLeDiff, zP, zQ, zR, zS, zT, zU, zV, zW, zX, zY, zZ, za, zb, zc, zd, ze, zf, zg, zh, zi, zj, zk, zl, zm, zn, zo, zp, zq, zr, zt, zu, zw, zx, zy, zz, cE, jA, jB, hap, killE, deadOf, rwE, cD, cO, jC, jD, jE, jF, jG, jH, jI, jJ, jK, jL, jM, jN, jO, jP, jQ, jR, jS, jT, jU, jV, jW, jX, jY, hP, hk, res20, kp20, cpC, rowCutSp, rowTrimL, rowIBc, Int.toNat_natCast, Int.toNat_zero, Int.toNat_one, Int.le_refl, List.drop_zero, pgV, gqZ, gqS, mqS, noS, Mq.zero])
    exact hpost xq _ rfl rfl (by simp) hcp
end Go.Proofs.YtehfcboiimdkbaaGreatDoor
