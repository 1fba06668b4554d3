/- plain: the requests of a line alone. Printed by gen_tplain.py. -/
import Derived.Test.YtehfcboiimdkbaaGreatDoorBV
namespace Go.Proofs.YtehfcboiimdkbaaGreatDoor
set_option linter.unusedSimpArgs false
set_option linter.unusedVariables false
set_option linter.unusedSimpArgs false
set_option linter.unusedVariables false
set_option maxHeartbeats 8000000
open Go.RowKit
set_option maxRecDepth 100000
theorem two_of {α : Type} {l : List α} (h : l.length = 2) : ∃ x y, l = [x, y] := by
  match l, h with
  | [x, y], _ => exact ⟨x, y, rfl⟩
def tC3 (a : Option Addr) (ws : List (List UInt8)) : Ctr := fun f en xs => match f with
  | 83 => rowWJoin a ws xs
  | _ => tC2 a ws f en xs
theorem tC3_ok {C : Cx} {a : Option Addr} {ws : List (List UInt8)} {g : Nat} (hP : C.P = Tryz.prog) (hE : EnvCV C) (hW : ∀ w, Upd C.S C.w0 w → RawSV w g a ws) (hl : ∀ x ∈ ws, x.length ≤ 9223372036854775807) : CtrOk C (tC3 a ws) := by
  intro f en xs p v h hp ρ w hup hHp hHo hinj hwf
  unfold tC3 at h
  split at h
  · rw [hP]; exact ⟨fun args w => Tryz.call83 args w, rowWJoin_ok h hp (hW w hup)⟩
  · exact tC2_ok hP hE hW hl f en xs p v h hp ρ w hup hHp hHo hinj hwf
theorem one_of' {α : Type} {l : List α} (h : l.length = 1) : ∃ x, l = [x] := by
  match l, h with
  | [x], _ => exact ⟨x, rfl⟩
theorem plain_incr {w : World} {g : Nat} {a : Option Addr} {c : Nat} {ws : List (List UInt8)} {behind : List UInt8} (h : Ln w g [105, 110, 99, 114] a ws.length c ws behind 0 false) (hn : ws.length ≤ 100000) (hl : ∀ x ∈ ws, x.length ≤ 100000) (hE0 : EnvG g w) :
    Calls Tryz.prog 56 #[.pointer (some ⟨g, 0, none⟩)] w (MP F1 g w (plainR [105, 110, 99, 114] ws)) := by
  obtain ⟨w1, q, hoff⟩ : ∃ w1 q, offF ws = (w1, q) := ⟨_, _, rfl⟩
  have hpre := off_len ws
  rw [hoff] at hpre
  simp only at hpre
  have hl1 : ∀ x ∈ w1, x.length ≤ 9223372036854775807 := fun x hx => by rw [hpre] at hx; have := hl x (List.mem_of_mem_take hx); omega
  obtain ⟨n, hnn⟩ : ∃ n, w1.length = n := ⟨_, rfl⟩
  have hnc : n ≤ 100000 := by have := congrArg List.length hpre; rw [List.length_take] at this; omega
  refine calls_of_Run Tryz.func56 rfl kp56 (S := One g) (ρ := fun _ => reOfV g) [.c (.p 0 0)] Tryz.ntmps56 (ln_at h.blk true (One g) (fun _ => rfl)) (by simp [SV.wf, SC.wf]) (by simp) ?_
  intro C hC hP hk
  have hLW : LW C g w := lw_of hC Nat.zero_lt_one rfl
  have hE : EnvCV C := hE0.C hLW.S hLW.w0
  have hW0 : ∀ w', Upd C.S C.w0 w' → RawSV w' g a ws := fun w' hu => by rw [hLW.S, hLW.w0] at hu; exact h.raw.upd hu
  have hW : ∀ w', Upd C.S C.w0 w' → RawSV w' g a w1 := fun w' hu => (hW0 w' hu).pre hpre
  have hr : ∀ (k : Nat) x, w1[k]? = some x → ∃ b o, a = some ⟨b, o, none⟩ ∧ C.rd b (o + k) 1 = some [.s x] := fun k x hx => (h.raw.pre hpre).rd (D := C) (by rw [hLW.S]; exact fun k hk => hk) hLW.w0 hx
  have hctr := tC2_ok hP hE hW hl1
  (refine VT_ok hctr (rs := res56) true 300 _ _ _ ?_; simp (maxSteps := 1000000) only [VT, jf, jg, jZ, ja, jd, je, VC, qA, qB, qC, qD, qE, qF, qG, qH, qI, qJ, qK, qL, qM, qN, qO, qP, qQ, qR, qS, qT, qU, qV, qW, qX, qY, qZ, qe, qf, qg, qh, qj, qk, ql, qm, qn, qo, qp, qq, q0t, qu, qv, ev, qw, qy, qz, zA, zB, zC, zD, zE, zF, zG, zH, zI, zJ, TE.sv, zK, zL, zM, ↓reduceIte, reduceCtorEq, Value.oneCell', Nat.reduceEqDiff, Nat.reduceAdd, Nat.reduceLT, Nat.reduceBEq, Nat.reduceSub, Nat.reduceLeDiff, zP, zQ, zR, zS, zT, zU, zV, zW, zX, zY, zZ, za, zb, zc, zd, ze, zf, zg, zh, zi, zj, zk, zl, zm, zn, zo, zp, zq, zr, zt, zu, zw, zx, zy, zz, cE, jA, jB, hap, killE, deadOf, rwE, cD, cO, jC, jD, jE, jF, jG, jH, jI, jJ, jK, jL, jM, jN, jO, jP, jQ, jR, jS, jT, jU, jV, jW, jX, jY, hP, hk, res56, kp56, tC2, tC1, tC0V, rowCount, rowLKey, rowLSec, rowNeedV, rowBad, rowSecs, rowParseV, lnC, hoff, Int.toNat_zero, Int.toNat_one, Nat.mul_one, Nat.zero_mul, Nat.add_zero, Int.le_refl, Nat.reduceMul, lb1, lb2, lb3, lb4, u8b, UInt8.reduceToNat])
  refine Run_hcall rfl (.t []) _ (off_h (C := C) hP hE (name := [105, 110, 99, 114]) (a := a) (c := c) (ws := ws) (behind := behind) (used := 0) (N := 0) rfl (by simp [zG]) h.cap (by omega) hLW.n0 hLW.r0 hW0 (fun q hq => by simp only [zG, zE] at hq; omega) rfl) (by simp [zG, zE]) (by simp) ?_
  by_cases hc : n = 2
  · obtain ⟨x, y, rfl⟩ := two_of (hnn.trans hc)
    have c1 : (decide ((2 : Int) ≤ ((2 : Nat) : Int)) && decide (((2 : Nat) : Int) ≤ 2)) = true := rfl
    obtain ⟨b, o, rfl, hr0⟩ := hr 0 x rfl
    obtain ⟨_, _, he, hr1⟩ := hr 1 y rfl
    cases he
    have p0 : (0 : Int) < ((2 : Nat) : Int) := by decide
    have p1 : (1 : Int) < ((2 : Nat) : Int) := by decide
    have p2 : (0 : Int) ≤ 1 := by decide
    have ly : y.length ≤ 9223372036854775807 := hl1 y (by simp)
    cases hkb : keyB x with
    | false =>
      (refine VT_ok hctr (rs := res56) true 300 _ _ _ ?_; simp (maxSteps := 1000000) only [VT, jf, jg, jZ, ja, jd, je, VC, qA, qB, qC, qD, qE, qF, qG, qH, qI, qJ, qK, qL, qM, qN, qO, qP, qQ, qR, qS, qT, qU, qV, qW, qX, qY, qZ, qe, qf, qg, qh, qj, qk, ql, qm, qn, qo, qp, qq, q0t, qu, qv, ev, qw, qy, qz, zA, zB, zC, zD, zE, zF, zG, zH, zI, zJ, TE.sv, zK, zL, zM, ↓reduceIte, reduceCtorEq, Value.oneCell', Nat.reduceEqDiff, Nat.reduceAdd, Nat.reduceLT, Nat.reduceBEq, Nat.reduceSub, Nat.reduceLeDiff, zP, zQ, zR, zS, zT, zU, zV, zW, zX, zY, zZ, za, zb, zc, zd, ze, zf, zg, zh, zi, zj, zk, zl, zm, zn, zo, zp, zq, zr, zt, zu, zw, zx, zy, zz, cE, jA, jB, hap, killE, deadOf, rwE, cD, cO, jC, jD, jE, jF, jG, jH, jI, jJ, jK, jL, jM, jN, jO, jP, jQ, jR, jS, jT, jU, jV, jW, jX, jY, hP, hk, res56, kp56, tC2, tC1, tC0V, rowCount, rowLKey, rowLSec, rowNeedV, rowBad, rowSecs, rowParseV, lnC, hoff, Int.toNat_zero, Int.toNat_one, Nat.mul_one, Nat.zero_mul, Nat.add_zero, Int.le_refl, Nat.reduceMul, lb1, lb2, lb3, lb4, u8b, UInt8.reduceToNat, c1, hkb])
      exact Run_lkey_no hC hP hE hW hl1 rfl rfl (name := [105, 110, 99, 114]) (behind := behind) (quiet := q) (i := 0) (x := x) rfl (Int.le_refl _) p0 rfl hkb (mp_fault hC Nat.zero_lt_one rfl (f := f_format) (by simp [plainR, hoff, okKey, hkb]) rfl)
    | true =>
      cases hv : parseV y with
      | none =>
        (refine VT_ok hctr (rs := res56) true 300 _ _ _ ?_; simp (maxSteps := 1000000) only [VT, jf, jg, jZ, ja, jd, je, VC, qA, qB, qC, qD, qE, qF, qG, qH, qI, qJ, qK, qL, qM, qN, qO, qP, qQ, qR, qS, qT, qU, qV, qW, qX, qY, qZ, qe, qf, qg, qh, qj, qk, ql, qm, qn, qo, qp, qq, q0t, qu, qv, ev, qw, qy, qz, zA, zB, zC, zD, zE, zF, zG, zH, zI, zJ, TE.sv, zK, zL, zM, ↓reduceIte, reduceCtorEq, Value.oneCell', Nat.reduceEqDiff, Nat.reduceAdd, Nat.reduceLT, Nat.reduceBEq, Nat.reduceSub, Nat.reduceLeDiff, zP, zQ, zR, zS, zT, zU, zV, zW, zX, zY, zZ, za, zb, zc, zd, ze, zf, zg, zh, zi, zj, zk, zl, zm, zn, zo, zp, zq, zr, zt, zu, zw, zx, zy, zz, cE, jA, jB, hap, killE, deadOf, rwE, cD, cO, jC, jD, jE, jF, jG, jH, jI, jJ, jK, jL, jM, jN, jO, jP, jQ, jR, jS, jT, jU, jV, jW, jX, jY, hP, hk, res56, kp56, tC2, tC1, tC0V, rowCount, rowLKey, rowLSec, rowNeedV, rowBad, rowSecs, rowParseV, lnC, hoff, Int.toNat_zero, Int.toNat_one, Nat.mul_one, Nat.zero_mul, Nat.add_zero, Int.le_refl, Nat.reduceMul, lb1, lb2, lb3, lb4, u8b, UInt8.reduceToNat, c1, hkb, p0, p1, p2, hr0, hr1, ly, hv, Option.getD_none, Option.isSome_none])
        exact Run_need hC hP rfl rfl (mp_fault hC Nat.zero_lt_one rfl (f := f_delta) (by simp [plainR, hoff, okKey, hkb, hv]) rfl)
      | some v =>
        (refine VT_ok hctr (rs := res56) true 300 _ _ _ ?_; simp (maxSteps := 1000000) only [VT, jf, jg, jZ, ja, jd, je, VC, qA, qB, qC, qD, qE, qF, qG, qH, qI, qJ, qK, qL, qM, qN, qO, qP, qQ, qR, qS, qT, qU, qV, qW, qX, qY, qZ, qe, qf, qg, qh, qj, qk, ql, qm, qn, qo, qp, qq, q0t, qu, qv, ev, qw, qy, qz, zA, zB, zC, zD, zE, zF, zG, zH, zI, zJ, TE.sv, zK, zL, zM, ↓reduceIte, reduceCtorEq, Value.oneCell', Nat.reduceEqDiff, Nat.reduceAdd, Nat.reduceLT, Nat.reduceBEq, Nat.reduceSub, Nat.reduceLeDiff, zP, zQ, zR, zS, zT, zU, zV, zW, zX, zY, zZ, za, zb, zc, zd, ze, zf, zg, zh, zi, zj, zk, zl, zm, zn, zo, zp, zq, zr, zt, zu, zw, zx, zy, zz, cE, jA, jB, hap, killE, deadOf, rwE, cD, cO, jC, jD, jE, jF, jG, jH, jI, jJ, jK, jL, jM, jN, jO, jP, jQ, jR, jS, jT, jU, jV, jW, jX, jY, hP, hk, res56, kp56, tC2, tC1, tC0V, rowCount, rowLKey, rowLSec, rowNeedV, rowBad, rowSecs, rowParseV, lnC, hoff, Int.toNat_zero, Int.toNat_one, Nat.mul_one, Nat.zero_mul, Nat.add_zero, Int.le_refl, Nat.reduceMul, lb1, lb2, lb3, lb4, u8b, UInt8.reduceToNat, c1, hkb, p0, p1, p2, hr0, hr1, ly, hv, Option.getD_some, Option.isSome_some])
        refine Run_hcall rfl _ _ (do_h (C := C) (name := [105, 110, 99, 114]) (W := .slice _ _ c) (behind := behind) (used := 0) (quiet := q) (mu := true) (M := 0) (N := 2) (V := .sl 2 0 1 1) (I := whole) (cs := [{ Cd.zero with op := 3, key := x, delta := v, down := false }]) hP rfl rfl rfl (by simp [zG]) (by simp [zG]) (by decide) (by simp) (by simp) (fun ρ h1 h2 h3 => ⟨1, Nat.le_refl _, by simp [SC.den, h1]⟩) (fun pr h => h) (fun q hq => by simp only [zG, zE] at hq; omega) rfl) (by simp [zG, zE]) (by simp) ?_
        (refine VT_ok hctr (rs := res56) true 300 _ _ _ ?_; simp (maxSteps := 1000000) only [VT, jf, jg, jZ, ja, jd, je, VC, qA, qB, qC, qD, qE, qF, qG, qH, qI, qJ, qK, qL, qM, qN, qO, qP, qQ, qR, qS, qT, qU, qV, qW, qX, qY, qZ, qe, qf, qg, qh, qj, qk, ql, qm, qn, qo, qp, qq, q0t, qu, qv, ev, qw, qy, qz, zA, zB, zC, zD, zE, zF, zG, zH, zI, zJ, TE.sv, zK, zL, zM, ↓reduceIte, reduceCtorEq, Value.oneCell', Nat.reduceEqDiff, Nat.reduceAdd, Nat.reduceLT, Nat.reduceBEq, Nat.reduceSub, Nat.reduceLeDiff, zP, zQ, zR, zS, zT, zU, zV, zW, zX, zY, zZ, za, zb, zc, zd, ze, zf, zg, zh, zi, zj, zk, zl, zm, zn, zo, zp, zq, zr, zt, zu, zw, zx, zy, zz, cE, jA, jB, hap, killE, deadOf, rwE, cD, cO, jC, jD, jE, jF, jG, jH, jI, jJ, jK, jL, jM, jN, jO, jP, jQ, jR, jS, jT, jU, jV, jW, jX, jY, hP, hk, res56, kp56, tC2, tC1, tC0V, rowCount, rowLKey, rowLSec, rowNeedV, rowBad, rowSecs, rowParseV, lnC, hoff, Int.toNat_zero, Int.toNat_one, Nat.mul_one, Nat.zero_mul, Nat.add_zero, Int.le_refl, Nat.reduceMul, lb1, lb2, lb3, lb4, u8b, UInt8.reduceToNat, rqS, Rq.zero, flatG, reC, rcS])
        exact mp_cmd hC Nat.zero_lt_one rfl hres56 (r := doR [{ Cd.zero with op := 3, key := x, delta := v, down := false }] q) (more := false) (used := 0) (by simp [plainR, hoff, okKey, hkb, hv]) (N := 2) (by simp [doR]) (by simp [doR]) (fun ρ => rfl) rfl rfl (by decide)
  · have c1 : (decide ((2 : Int) ≤ (n : Int)) && decide ((n : Int) ≤ 2)) = false := by
      rw [Bool.and_eq_false_iff]; simp only [decide_eq_false_iff_not]; omega
    (refine VT_ok hctr (rs := res56) true 300 _ _ _ ?_; simp (maxSteps := 1000000) only [VT, jf, jg, jZ, ja, jd, je, VC, qA, qB, qC, qD, qE, qF, qG, qH, qI, qJ, qK, qL, qM, qN, qO, qP, qQ, qR, qS, qT, qU, qV, qW, qX, qY, qZ, qe, qf, qg, qh, qj, qk, ql, qm, qn, qo, qp, qq, q0t, qu, qv, ev, qw, qy, qz, zA, zB, zC, zD, zE, zF, zG, zH, zI, zJ, TE.sv, zK, zL, zM, ↓reduceIte, reduceCtorEq, Value.oneCell', Nat.reduceEqDiff, Nat.reduceAdd, Nat.reduceLT, Nat.reduceBEq, Nat.reduceSub, Nat.reduceLeDiff, zP, zQ, zR, zS, zT, zU, zV, zW, zX, zY, zZ, za, zb, zc, zd, ze, zf, zg, zh, zi, zj, zk, zl, zm, zn, zo, zp, zq, zr, zt, zu, zw, zx, zy, zz, cE, jA, jB, hap, killE, deadOf, rwE, cD, cO, jC, jD, jE, jF, jG, jH, jI, jJ, jK, jL, jM, jN, jO, jP, jQ, jR, jS, jT, jU, jV, jW, jX, jY, hP, hk, res56, kp56, tC2, tC1, tC0V, rowCount, rowLKey, rowLSec, rowNeedV, rowBad, rowSecs, rowParseV, lnC, hoff, Int.toNat_zero, Int.toNat_one, Nat.mul_one, Nat.zero_mul, Nat.add_zero, Int.le_refl, Nat.reduceMul, lb1, lb2, lb3, lb4, u8b, UInt8.reduceToNat, hnn, c1])
    exact Run_count_no hC hP hE rfl rfl (name := [105, 110, 99, 114]) (behind := behind) (quiet := q) rfl (by omega) (mp_fault hC Nat.zero_lt_one rfl (f := f_unknown) (by simp [plainR, hoff, hnn, hc]) rfl)
theorem plain_decr {w : World} {g : Nat} {a : Option Addr} {c : Nat} {ws : List (List UInt8)} {behind : List UInt8} (h : Ln w g [100, 101, 99, 114] a ws.length c ws behind 0 false) (hn : ws.length ≤ 100000) (hl : ∀ x ∈ ws, x.length ≤ 100000) (hE0 : EnvG g w) :
    Calls Tryz.prog 56 #[.pointer (some ⟨g, 0, none⟩)] w (MP F1 g w (plainR [100, 101, 99, 114] ws)) := by
  obtain ⟨w1, q, hoff⟩ : ∃ w1 q, offF ws = (w1, q) := ⟨_, _, rfl⟩
  have hpre := off_len ws
  rw [hoff] at hpre
  simp only at hpre
  have hl1 : ∀ x ∈ w1, x.length ≤ 9223372036854775807 := fun x hx => by rw [hpre] at hx; have := hl x (List.mem_of_mem_take hx); omega
  obtain ⟨n, hnn⟩ : ∃ n, w1.length = n := ⟨_, rfl⟩
  have hnc : n ≤ 100000 := by have := congrArg List.length hpre; rw [List.length_take] at this; omega
  refine calls_of_Run Tryz.func56 rfl kp56 (S := One g) (ρ := fun _ => reOfV g) [.c (.p 0 0)] Tryz.ntmps56 (ln_at h.blk true (One g) (fun _ => rfl)) (by simp [SV.wf, SC.wf]) (by simp) ?_
  intro C hC hP hk
  have hLW : LW C g w := lw_of hC Nat.zero_lt_one rfl
  have hE : EnvCV C := hE0.C hLW.S hLW.w0
  have hW0 : ∀ w', Upd C.S C.w0 w' → RawSV w' g a ws := fun w' hu => by rw [hLW.S, hLW.w0] at hu; exact h.raw.upd hu
  have hW : ∀ w', Upd C.S C.w0 w' → RawSV w' g a w1 := fun w' hu => (hW0 w' hu).pre hpre
  have hr : ∀ (k : Nat) x, w1[k]? = some x → ∃ b o, a = some ⟨b, o, none⟩ ∧ C.rd b (o + k) 1 = some [.s x] := fun k x hx => (h.raw.pre hpre).rd (D := C) (by rw [hLW.S]; exact fun k hk => hk) hLW.w0 hx
  have hctr := tC2_ok hP hE hW hl1
  (refine VT_ok hctr (rs := res56) true 300 _ _ _ ?_; simp (maxSteps := 1000000) only [VT, jf, jg, jZ, ja, jd, je, VC, qA, qB, qC, qD, qE, qF, qG, qH, qI, qJ, qK, qL, qM, qN, qO, qP, qQ, qR, qS, qT, qU, qV, qW, qX, qY, qZ, qe, qf, qg, qh, qj, qk, ql, qm, qn, qo, qp, qq, q0t, qu, qv, ev, qw, qy, qz, zA, zB, zC, zD, zE, zF, zG, zH, zI, zJ, TE.sv, zK, zL, zM, ↓reduceIte, reduceCtorEq, Value.oneCell', Nat.reduceEqDiff, Nat.reduceAdd, Nat.reduceLT, Nat.reduceBEq, Nat.reduceSub, Nat.reduceLeDiff, zP, zQ, zR, zS, zT, zU, zV, zW, zX, zY, zZ, za, zb, zc, zd, ze, zf, zg, zh, zi, zj, zk, zl, zm, zn, zo, zp, zq, zr, zt, zu, zw, zx, zy, zz, cE, jA, jB, hap, killE, deadOf, rwE, cD, cO, jC, jD, jE, jF, jG, jH, jI, jJ, jK, jL, jM, jN, jO, jP, jQ, jR, jS, jT, jU, jV, jW, jX, jY, hP, hk, res56, kp56, tC2, tC1, tC0V, rowCount, rowLKey, rowLSec, rowNeedV, rowBad, rowSecs, rowParseV, lnC, hoff, Int.toNat_zero, Int.toNat_one, Nat.mul_one, Nat.zero_mul, Nat.add_zero, Int.le_refl, Nat.reduceMul, lb1, lb2, lb3, lb4, u8b, UInt8.reduceToNat])
  refine Run_hcall rfl (.t []) _ (off_h (C := C) hP hE (name := [100, 101, 99, 114]) (a := a) (c := c) (ws := ws) (behind := behind) (used := 0) (N := 0) rfl (by simp [zG]) h.cap (by omega) hLW.n0 hLW.r0 hW0 (fun q hq => by simp only [zG, zE] at hq; omega) rfl) (by simp [zG, zE]) (by simp) ?_
  by_cases hc : n = 2
  · obtain ⟨x, y, rfl⟩ := two_of (hnn.trans hc)
    have c1 : (decide ((2 : Int) ≤ ((2 : Nat) : Int)) && decide (((2 : Nat) : Int) ≤ 2)) = true := rfl
    obtain ⟨b, o, rfl, hr0⟩ := hr 0 x rfl
    obtain ⟨_, _, he, hr1⟩ := hr 1 y rfl
    cases he
    have p0 : (0 : Int) < ((2 : Nat) : Int) := by decide
    have p1 : (1 : Int) < ((2 : Nat) : Int) := by decide
    have p2 : (0 : Int) ≤ 1 := by decide
    have ly : y.length ≤ 9223372036854775807 := hl1 y (by simp)
    cases hkb : keyB x with
    | false =>
      (refine VT_ok hctr (rs := res56) true 300 _ _ _ ?_; simp (maxSteps := 1000000) only [VT, jf, jg, jZ, ja, jd, je, VC, qA, qB, qC, qD, qE, qF, qG, qH, qI, qJ, qK, qL, qM, qN, qO, qP, qQ, qR, qS, qT, qU, qV, qW, qX, qY, qZ, qe, qf, qg, qh, qj, qk, ql, qm, qn, qo, qp, qq, q0t, qu, qv, ev, qw, qy, qz, zA, zB, zC, zD, zE, zF, zG, zH, zI, zJ, TE.sv, zK, zL, zM, ↓reduceIte, reduceCtorEq, Value.oneCell', Nat.reduceEqDiff, Nat.reduceAdd, Nat.reduceLT, Nat.reduceBEq, Nat.reduceSub, Nat.reduceLeDiff, zP, zQ, zR, zS, zT, zU, zV, zW, zX, zY, zZ, za, zb, zc, zd, ze, zf, zg, zh, zi, zj, zk, zl, zm, zn, zo, zp, zq, zr, zt, zu, zw, zx, zy, zz, cE, jA, jB, hap, killE, deadOf, rwE, cD, cO, jC, jD, jE, jF, jG, jH, jI, jJ, jK, jL, jM, jN, jO, jP, jQ, jR, jS, jT, jU, jV, jW, jX, jY, hP, hk, res56, kp56, tC2, tC1, tC0V, rowCount, rowLKey, rowLSec, rowNeedV, rowBad, rowSecs, rowParseV, lnC, hoff, Int.toNat_zero, Int.toNat_one, Nat.mul_one, Nat.zero_mul, Nat.add_zero, Int.le_refl, Nat.reduceMul, lb1, lb2, lb3, lb4, u8b, UInt8.reduceToNat, c1, hkb])
      exact Run_lkey_no hC hP hE hW hl1 rfl rfl (name := [100, 101, 99, 114]) (behind := behind) (quiet := q) (i := 0) (x := x) rfl (Int.le_refl _) p0 rfl hkb (mp_fault hC Nat.zero_lt_one rfl (f := f_format) (by simp [plainR, hoff, okKey, hkb]) rfl)
    | true =>
      cases hv : parseV y with
      | none =>
        (refine VT_ok hctr (rs := res56) true 300 _ _ _ ?_; simp (maxSteps := 1000000) only [VT, jf, jg, jZ, ja, jd, je, VC, qA, qB, qC, qD, qE, qF, qG, qH, qI, qJ, qK, qL, qM, qN, qO, qP, qQ, qR, qS, qT, qU, qV, qW, qX, qY, qZ, qe, qf, qg, qh, qj, qk, ql, qm, qn, qo, qp, qq, q0t, qu, qv, ev, qw, qy, qz, zA, zB, zC, zD, zE, zF, zG, zH, zI, zJ, TE.sv, zK, zL, zM, ↓reduceIte, reduceCtorEq, Value.oneCell', Nat.reduceEqDiff, Nat.reduceAdd, Nat.reduceLT, Nat.reduceBEq, Nat.reduceSub, Nat.reduceLeDiff, zP, zQ, zR, zS, zT, zU, zV, zW, zX, zY, zZ, za, zb, zc, zd, ze, zf, zg, zh, zi, zj, zk, zl, zm, zn, zo, zp, zq, zr, zt, zu, zw, zx, zy, zz, cE, jA, jB, hap, killE, deadOf, rwE, cD, cO, jC, jD, jE, jF, jG, jH, jI, jJ, jK, jL, jM, jN, jO, jP, jQ, jR, jS, jT, jU, jV, jW, jX, jY, hP, hk, res56, kp56, tC2, tC1, tC0V, rowCount, rowLKey, rowLSec, rowNeedV, rowBad, rowSecs, rowParseV, lnC, hoff, Int.toNat_zero, Int.toNat_one, Nat.mul_one, Nat.zero_mul, Nat.add_zero, Int.le_refl, Nat.reduceMul, lb1, lb2, lb3, lb4, u8b, UInt8.reduceToNat, c1, hkb, p0, p1, p2, hr0, hr1, ly, hv, Option.getD_none, Option.isSome_none])
        exact Run_need hC hP rfl rfl (mp_fault hC Nat.zero_lt_one rfl (f := f_delta) (by simp [plainR, hoff, okKey, hkb, hv]) rfl)
      | some v =>
        (refine VT_ok hctr (rs := res56) true 300 _ _ _ ?_; simp (maxSteps := 1000000) only [VT, jf, jg, jZ, ja, jd, je, VC, qA, qB, qC, qD, qE, qF, qG, qH, qI, qJ, qK, qL, qM, qN, qO, qP, qQ, qR, qS, qT, qU, qV, qW, qX, qY, qZ, qe, qf, qg, qh, qj, qk, ql, qm, qn, qo, qp, qq, q0t, qu, qv, ev, qw, qy, qz, zA, zB, zC, zD, zE, zF, zG, zH, zI, zJ, TE.sv, zK, zL, zM, ↓reduceIte, reduceCtorEq, Value.oneCell', Nat.reduceEqDiff, Nat.reduceAdd, Nat.reduceLT, Nat.reduceBEq, Nat.reduceSub, Nat.reduceLeDiff, zP, zQ, zR, zS, zT, zU, zV, zW, zX, zY, zZ, za, zb, zc, zd, ze, zf, zg, zh, zi, zj, zk, zl, zm, zn, zo, zp, zq, zr, zt, zu, zw, zx, zy, zz, cE, jA, jB, hap, killE, deadOf, rwE, cD, cO, jC, jD, jE, jF, jG, jH, jI, jJ, jK, jL, jM, jN, jO, jP, jQ, jR, jS, jT, jU, jV, jW, jX, jY, hP, hk, res56, kp56, tC2, tC1, tC0V, rowCount, rowLKey, rowLSec, rowNeedV, rowBad, rowSecs, rowParseV, lnC, hoff, Int.toNat_zero, Int.toNat_one, Nat.mul_one, Nat.zero_mul, Nat.add_zero, Int.le_refl, Nat.reduceMul, lb1, lb2, lb3, lb4, u8b, UInt8.reduceToNat, c1, hkb, p0, p1, p2, hr0, hr1, ly, hv, Option.getD_some, Option.isSome_some])
        refine Run_hcall rfl _ _ (do_h (C := C) (name := [100, 101, 99, 114]) (W := .slice _ _ c) (behind := behind) (used := 0) (quiet := q) (mu := true) (M := 0) (N := 2) (V := .sl 2 0 1 1) (I := whole) (cs := [{ Cd.zero with op := 3, key := x, delta := v, down := true }]) hP rfl rfl rfl (by simp [zG]) (by simp [zG]) (by decide) (by simp) (by simp) (fun ρ h1 h2 h3 => ⟨1, Nat.le_refl _, by simp [SC.den, h1]⟩) (fun pr h => h) (fun q hq => by simp only [zG, zE] at hq; omega) rfl) (by simp [zG, zE]) (by simp) ?_
        (refine VT_ok hctr (rs := res56) true 300 _ _ _ ?_; simp (maxSteps := 1000000) only [VT, jf, jg, jZ, ja, jd, je, VC, qA, qB, qC, qD, qE, qF, qG, qH, qI, qJ, qK, qL, qM, qN, qO, qP, qQ, qR, qS, qT, qU, qV, qW, qX, qY, qZ, qe, qf, qg, qh, qj, qk, ql, qm, qn, qo, qp, qq, q0t, qu, qv, ev, qw, qy, qz, zA, zB, zC, zD, zE, zF, zG, zH, zI, zJ, TE.sv, zK, zL, zM, ↓reduceIte, reduceCtorEq, Value.oneCell', Nat.reduceEqDiff, Nat.reduceAdd, Nat.reduceLT, Nat.reduceBEq, Nat.reduceSub, Nat.reduceLeDiff, zP, zQ, zR, zS, zT, zU, zV, zW, zX, zY, zZ, za, zb, zc, zd, ze, zf, zg, zh, zi, zj, zk, zl, zm, zn, zo, zp, zq, zr, zt, zu, zw, zx, zy, zz, cE, jA, jB, hap, killE, deadOf, rwE, cD, cO, jC, jD, jE, jF, jG, jH, jI, jJ, jK, jL, jM, jN, jO, jP, jQ, jR, jS, jT, jU, jV, jW, jX, jY, hP, hk, res56, kp56, tC2, tC1, tC0V, rowCount, rowLKey, rowLSec, rowNeedV, rowBad, rowSecs, rowParseV, lnC, hoff, Int.toNat_zero, Int.toNat_one, Nat.mul_one, Nat.zero_mul, Nat.add_zero, Int.le_refl, Nat.reduceMul, lb1, lb2, lb3, lb4, u8b, UInt8.reduceToNat, rqS, Rq.zero, flatG, reC, rcS])
        exact mp_cmd hC Nat.zero_lt_one rfl hres56 (r := doR [{ Cd.zero with op := 3, key := x, delta := v, down := true }] q) (more := false) (used := 0) (by simp [plainR, hoff, okKey, hkb, hv]) (N := 2) (by simp [doR]) (by simp [doR]) (fun ρ => rfl) rfl rfl (by decide)
  · have c1 : (decide ((2 : Int) ≤ (n : Int)) && decide ((n : Int) ≤ 2)) = false := by
      rw [Bool.and_eq_false_iff]; simp only [decide_eq_false_iff_not]; omega
    (refine VT_ok hctr (rs := res56) true 300 _ _ _ ?_; simp (maxSteps := 1000000) only [VT, jf, jg, jZ, ja, jd, je, VC, qA, qB, qC, qD, qE, qF, qG, qH, qI, qJ, qK, qL, qM, qN, qO, qP, qQ, qR, qS, qT, qU, qV, qW, qX, qY, qZ, qe, qf, qg, qh, qj, qk, ql, qm, qn, qo, qp, qq, q0t, qu, qv, ev, qw, qy, qz, zA, zB, zC, zD, zE, zF, zG, zH, zI, zJ, TE.sv, zK, zL, zM, ↓reduceIte, reduceCtorEq, Value.oneCell', Nat.reduceEqDiff, Nat.reduceAdd, Nat.reduceLT, Nat.reduceBEq, Nat.reduceSub, Nat.reduceLeDiff, zP, zQ, zR, zS, zT, zU, zV, zW, zX, zY, zZ, za, zb, zc, zd, ze, zf, zg, zh, zi, zj, zk, zl, zm, zn, zo, zp, zq, zr, zt, zu, zw, zx, zy, zz, cE, jA, jB, hap, killE, deadOf, rwE, cD, cO, jC, jD, jE, jF, jG, jH, jI, jJ, jK, jL, jM, jN, jO, jP, jQ, jR, jS, jT, jU, jV, jW, jX, jY, hP, hk, res56, kp56, tC2, tC1, tC0V, rowCount, rowLKey, rowLSec, rowNeedV, rowBad, rowSecs, rowParseV, lnC, hoff, Int.toNat_zero, Int.toNat_one, Nat.mul_one, Nat.zero_mul, Nat.add_zero, Int.le_refl, Nat.reduceMul, lb1, lb2, lb3, lb4, u8b, UInt8.reduceToNat, hnn, c1])
    exact Run_count_no hC hP hE rfl rfl (name := [100, 101, 99, 114]) (behind := behind) (quiet := q) rfl (by omega) (mp_fault hC Nat.zero_lt_one rfl (f := f_unknown) (by simp [plainR, hoff, hnn, hc]) rfl)
theorem plain_touch {w : World} {g : Nat} {a : Option Addr} {c : Nat} {ws : List (List UInt8)} {behind : List UInt8} (h : Ln w g [116, 111, 117, 99, 104] a ws.length c ws behind 0 false) (hn : ws.length ≤ 100000) (hl : ∀ x ∈ ws, x.length ≤ 100000) (hE0 : EnvG g w) :
    Calls Tryz.prog 56 #[.pointer (some ⟨g, 0, none⟩)] w (MP F1 g w (plainR [116, 111, 117, 99, 104] ws)) := by
  obtain ⟨w1, q, hoff⟩ : ∃ w1 q, offF ws = (w1, q) := ⟨_, _, rfl⟩
  have hpre := off_len ws
  rw [hoff] at hpre
  simp only at hpre
  have hl1 : ∀ x ∈ w1, x.length ≤ 9223372036854775807 := fun x hx => by rw [hpre] at hx; have := hl x (List.mem_of_mem_take hx); omega
  obtain ⟨n, hnn⟩ : ∃ n, w1.length = n := ⟨_, rfl⟩
  have hnc : n ≤ 100000 := by have := congrArg List.length hpre; rw [List.length_take] at this; omega
  refine calls_of_Run Tryz.func56 rfl kp56 (S := One g) (ρ := fun _ => reOfV g) [.c (.p 0 0)] Tryz.ntmps56 (ln_at h.blk true (One g) (fun _ => rfl)) (by simp [SV.wf, SC.wf]) (by simp) ?_
  intro C hC hP hk
  have hLW : LW C g w := lw_of hC Nat.zero_lt_one rfl
  have hE : EnvCV C := hE0.C hLW.S hLW.w0
  have hW0 : ∀ w', Upd C.S C.w0 w' → RawSV w' g a ws := fun w' hu => by rw [hLW.S, hLW.w0] at hu; exact h.raw.upd hu
  have hW : ∀ w', Upd C.S C.w0 w' → RawSV w' g a w1 := fun w' hu => (hW0 w' hu).pre hpre
  have hr : ∀ (k : Nat) x, w1[k]? = some x → ∃ b o, a = some ⟨b, o, none⟩ ∧ C.rd b (o + k) 1 = some [.s x] := fun k x hx => (h.raw.pre hpre).rd (D := C) (by rw [hLW.S]; exact fun k hk => hk) hLW.w0 hx
  have hctr := tC2_ok hP hE hW hl1
  (refine VT_ok hctr (rs := res56) true 300 _ _ _ ?_; simp (maxSteps := 1000000) only [VT, jf, jg, jZ, ja, jd, je, VC, qA, qB, qC, qD, qE, qF, qG, qH, qI, qJ, qK, qL, qM, qN, qO, qP, qQ, qR, qS, qT, qU, qV, qW, qX, qY, qZ, qe, qf, qg, qh, qj, qk, ql, qm, qn, qo, qp, qq, q0t, qu, qv, ev, qw, qy, qz, zA, zB, zC, zD, zE, zF, zG, zH, zI, zJ, TE.sv, zK, zL, zM, ↓reduceIte, reduceCtorEq, Value.oneCell', Nat.reduceEqDiff, Nat.reduceAdd, Nat.reduceLT, Nat.reduceBEq, Nat.reduceSub, Nat.reduceLeDiff, zP, zQ, zR, zS, zT, zU, zV, zW, zX, zY, zZ, za, zb, zc, zd, ze, zf, zg, zh, zi, zj, zk, zl, zm, zn, zo, zp, zq, zr, zt, zu, zw, zx, zy, zz, cE, jA, jB, hap, killE, deadOf, rwE, cD, cO, jC, jD, jE, jF, jG, jH, jI, jJ, jK, jL, jM, jN, jO, jP, jQ, jR, jS, jT, jU, jV, jW, jX, jY, hP, hk, res56, kp56, tC2, tC1, tC0V, rowCount, rowLKey, rowLSec, rowNeedV, rowBad, rowSecs, rowParseV, lnC, hoff, Int.toNat_zero, Int.toNat_one, Nat.mul_one, Nat.zero_mul, Nat.add_zero, Int.le_refl, Nat.reduceMul, lb1, lb2, lb3, lb4, u8b, UInt8.reduceToNat])
  refine Run_hcall rfl (.t []) _ (off_h (C := C) hP hE (name := [116, 111, 117, 99, 104]) (a := a) (c := c) (ws := ws) (behind := behind) (used := 0) (N := 0) rfl (by simp [zG]) h.cap (by omega) hLW.n0 hLW.r0 hW0 (fun q hq => by simp only [zG, zE] at hq; omega) rfl) (by simp [zG, zE]) (by simp) ?_
  by_cases hc : n = 2
  · obtain ⟨x, y, rfl⟩ := two_of (hnn.trans hc)
    have c1 : (decide ((2 : Int) ≤ ((2 : Nat) : Int)) && decide (((2 : Nat) : Int) ≤ 2)) = true := rfl
    obtain ⟨b, o, rfl, hr0⟩ := hr 0 x rfl
    obtain ⟨_, _, he, hr1⟩ := hr 1 y rfl
    cases he
    have p0 : (0 : Int) < ((2 : Nat) : Int) := by decide
    have p1 : (1 : Int) < ((2 : Nat) : Int) := by decide
    have p2 : (0 : Int) ≤ 1 := by decide
    cases hkb : keyB x with
    | false =>
      (refine VT_ok hctr (rs := res56) true 300 _ _ _ ?_; simp (maxSteps := 1000000) only [VT, jf, jg, jZ, ja, jd, je, VC, qA, qB, qC, qD, qE, qF, qG, qH, qI, qJ, qK, qL, qM, qN, qO, qP, qQ, qR, qS, qT, qU, qV, qW, qX, qY, qZ, qe, qf, qg, qh, qj, qk, ql, qm, qn, qo, qp, qq, q0t, qu, qv, ev, qw, qy, qz, zA, zB, zC, zD, zE, zF, zG, zH, zI, zJ, TE.sv, zK, zL, zM, ↓reduceIte, reduceCtorEq, Value.oneCell', Nat.reduceEqDiff, Nat.reduceAdd, Nat.reduceLT, Nat.reduceBEq, Nat.reduceSub, Nat.reduceLeDiff, zP, zQ, zR, zS, zT, zU, zV, zW, zX, zY, zZ, za, zb, zc, zd, ze, zf, zg, zh, zi, zj, zk, zl, zm, zn, zo, zp, zq, zr, zt, zu, zw, zx, zy, zz, cE, jA, jB, hap, killE, deadOf, rwE, cD, cO, jC, jD, jE, jF, jG, jH, jI, jJ, jK, jL, jM, jN, jO, jP, jQ, jR, jS, jT, jU, jV, jW, jX, jY, hP, hk, res56, kp56, tC2, tC1, tC0V, rowCount, rowLKey, rowLSec, rowNeedV, rowBad, rowSecs, rowParseV, lnC, hoff, Int.toNat_zero, Int.toNat_one, Nat.mul_one, Nat.zero_mul, Nat.add_zero, Int.le_refl, Nat.reduceMul, lb1, lb2, lb3, lb4, u8b, UInt8.reduceToNat, c1, hkb])
      exact Run_lkey_no hC hP hE hW hl1 rfl rfl (name := [116, 111, 117, 99, 104]) (behind := behind) (quiet := q) (i := 0) (x := x) rfl (Int.le_refl _) p0 rfl hkb (mp_fault hC Nat.zero_lt_one rfl (f := f_format) (by simp [plainR, hoff, okKey, hkb]) rfl)
    | true =>
      cases hs : (secF y).2 with
      | false =>
        (refine VT_ok hctr (rs := res56) true 300 _ _ _ ?_; simp (maxSteps := 1000000) only [VT, jf, jg, jZ, ja, jd, je, VC, qA, qB, qC, qD, qE, qF, qG, qH, qI, qJ, qK, qL, qM, qN, qO, qP, qQ, qR, qS, qT, qU, qV, qW, qX, qY, qZ, qe, qf, qg, qh, qj, qk, ql, qm, qn, qo, qp, qq, q0t, qu, qv, ev, qw, qy, qz, zA, zB, zC, zD, zE, zF, zG, zH, zI, zJ, TE.sv, zK, zL, zM, ↓reduceIte, reduceCtorEq, Value.oneCell', Nat.reduceEqDiff, Nat.reduceAdd, Nat.reduceLT, Nat.reduceBEq, Nat.reduceSub, Nat.reduceLeDiff, zP, zQ, zR, zS, zT, zU, zV, zW, zX, zY, zZ, za, zb, zc, zd, ze, zf, zg, zh, zi, zj, zk, zl, zm, zn, zo, zp, zq, zr, zt, zu, zw, zx, zy, zz, cE, jA, jB, hap, killE, deadOf, rwE, cD, cO, jC, jD, jE, jF, jG, jH, jI, jJ, jK, jL, jM, jN, jO, jP, jQ, jR, jS, jT, jU, jV, jW, jX, jY, hP, hk, res56, kp56, tC2, tC1, tC0V, rowCount, rowLKey, rowLSec, rowNeedV, rowBad, rowSecs, rowParseV, lnC, hoff, Int.toNat_zero, Int.toNat_one, Nat.mul_one, Nat.zero_mul, Nat.add_zero, Int.le_refl, Nat.reduceMul, lb1, lb2, lb3, lb4, u8b, UInt8.reduceToNat, c1, hkb, p0, p1, p2, hs])
        exact Run_lsec_no hC hP hE hW hl1 rfl rfl (name := [116, 111, 117, 99, 104]) (behind := behind) (quiet := q) (i := 1) (x := y) rfl p2 p1 rfl hs (mp_fault hC Nat.zero_lt_one rfl (f := f_exptime) (by simp [plainR, hoff, okKey, hkb, hs]) rfl)
      | true =>
        (refine VT_ok hctr (rs := res56) true 300 _ _ _ ?_; simp (maxSteps := 1000000) only [VT, jf, jg, jZ, ja, jd, je, VC, qA, qB, qC, qD, qE, qF, qG, qH, qI, qJ, qK, qL, qM, qN, qO, qP, qQ, qR, qS, qT, qU, qV, qW, qX, qY, qZ, qe, qf, qg, qh, qj, qk, ql, qm, qn, qo, qp, qq, q0t, qu, qv, ev, qw, qy, qz, zA, zB, zC, zD, zE, zF, zG, zH, zI, zJ, TE.sv, zK, zL, zM, ↓reduceIte, reduceCtorEq, Value.oneCell', Nat.reduceEqDiff, Nat.reduceAdd, Nat.reduceLT, Nat.reduceBEq, Nat.reduceSub, Nat.reduceLeDiff, zP, zQ, zR, zS, zT, zU, zV, zW, zX, zY, zZ, za, zb, zc, zd, ze, zf, zg, zh, zi, zj, zk, zl, zm, zn, zo, zp, zq, zr, zt, zu, zw, zx, zy, zz, cE, jA, jB, hap, killE, deadOf, rwE, cD, cO, jC, jD, jE, jF, jG, jH, jI, jJ, jK, jL, jM, jN, jO, jP, jQ, jR, jS, jT, jU, jV, jW, jX, jY, hP, hk, res56, kp56, tC2, tC1, tC0V, rowCount, rowLKey, rowLSec, rowNeedV, rowBad, rowSecs, rowParseV, lnC, hoff, Int.toNat_zero, Int.toNat_one, Nat.mul_one, Nat.zero_mul, Nat.add_zero, Int.le_refl, Nat.reduceMul, lb1, lb2, lb3, lb4, u8b, UInt8.reduceToNat, c1, hkb, p0, p1, p2, hr0, hr1, hs])
        refine Run_hcall rfl _ _ (do_h (C := C) (name := [116, 111, 117, 99, 104]) (W := .slice _ _ c) (behind := behind) (used := 0) (quiet := q) (mu := true) (M := 0) (N := 2) (V := .sl 2 0 1 1) (I := whole) (cs := [{ Cd.zero with op := 4, key := x, exp := (secF y).1 }]) hP rfl rfl rfl (by simp [zG]) (by simp [zG]) (by decide) (by simp) (by simp) (fun ρ h1 h2 h3 => ⟨1, Nat.le_refl _, by simp [SC.den, h1]⟩) (fun pr h => h) (fun q hq => by simp only [zG, zE] at hq; omega) rfl) (by simp [zG, zE]) (by simp) ?_
        (refine VT_ok hctr (rs := res56) true 300 _ _ _ ?_; simp (maxSteps := 1000000) only [VT, jf, jg, jZ, ja, jd, je, VC, qA, qB, qC, qD, qE, qF, qG, qH, qI, qJ, qK, qL, qM, qN, qO, qP, qQ, qR, qS, qT, qU, qV, qW, qX, qY, qZ, qe, qf, qg, qh, qj, qk, ql, qm, qn, qo, qp, qq, q0t, qu, qv, ev, qw, qy, qz, zA, zB, zC, zD, zE, zF, zG, zH, zI, zJ, TE.sv, zK, zL, zM, ↓reduceIte, reduceCtorEq, Value.oneCell', Nat.reduceEqDiff, Nat.reduceAdd, Nat.reduceLT, Nat.reduceBEq, Nat.reduceSub, Nat.reduceLeDiff, zP, zQ, zR, zS, zT, zU, zV, zW, zX, zY, zZ, za, zb, zc, zd, ze, zf, zg, zh, zi, zj, zk, zl, zm, zn, zo, zp, zq, zr, zt, zu, zw, zx, zy, zz, cE, jA, jB, hap, killE, deadOf, rwE, cD, cO, jC, jD, jE, jF, jG, jH, jI, jJ, jK, jL, jM, jN, jO, jP, jQ, jR, jS, jT, jU, jV, jW, jX, jY, hP, hk, res56, kp56, tC2, tC1, tC0V, rowCount, rowLKey, rowLSec, rowNeedV, rowBad, rowSecs, rowParseV, lnC, hoff, Int.toNat_zero, Int.toNat_one, Nat.mul_one, Nat.zero_mul, Nat.add_zero, Int.le_refl, Nat.reduceMul, lb1, lb2, lb3, lb4, u8b, UInt8.reduceToNat, rqS, Rq.zero, flatG, reC, rcS])
        exact mp_cmd hC Nat.zero_lt_one rfl hres56 (r := doR [{ Cd.zero with op := 4, key := x, exp := (secF y).1 }] q) (more := false) (used := 0) (by simp [plainR, hoff, okKey, hkb, hs]) (N := 2) (by simp [doR]) (by simp [doR]) (fun ρ => rfl) rfl rfl (by decide)
  · have c1 : (decide ((2 : Int) ≤ (n : Int)) && decide ((n : Int) ≤ 2)) = false := by
      rw [Bool.and_eq_false_iff]; simp only [decide_eq_false_iff_not]; omega
    (refine VT_ok hctr (rs := res56) true 300 _ _ _ ?_; simp (maxSteps := 1000000) only [VT, jf, jg, jZ, ja, jd, je, VC, qA, qB, qC, qD, qE, qF, qG, qH, qI, qJ, qK, qL, qM, qN, qO, qP, qQ, qR, qS, qT, qU, qV, qW, qX, qY, qZ, qe, qf, qg, qh, qj, qk, ql, qm, qn, qo, qp, qq, q0t, qu, qv, ev, qw, qy, qz, zA, zB, zC, zD, zE, zF, zG, zH, zI, zJ, TE.sv, zK, zL, zM, ↓reduceIte, reduceCtorEq, Value.oneCell', Nat.reduceEqDiff, Nat.reduceAdd, Nat.reduceLT, Nat.reduceBEq, Nat.reduceSub, Nat.reduceLeDiff, zP, zQ, zR, zS, zT, zU, zV, zW, zX, zY, zZ, za, zb, zc, zd, ze, zf, zg, zh, zi, zj, zk, zl, zm, zn, zo, zp, zq, zr, zt, zu, zw, zx, zy, zz, cE, jA, jB, hap, killE, deadOf, rwE, cD, cO, jC, jD, jE, jF, jG, jH, jI, jJ, jK, jL, jM, jN, jO, jP, jQ, jR, jS, jT, jU, jV, jW, jX, jY, hP, hk, res56, kp56, tC2, tC1, tC0V, rowCount, rowLKey, rowLSec, rowNeedV, rowBad, rowSecs, rowParseV, lnC, hoff, Int.toNat_zero, Int.toNat_one, Nat.mul_one, Nat.zero_mul, Nat.add_zero, Int.le_refl, Nat.reduceMul, lb1, lb2, lb3, lb4, u8b, UInt8.reduceToNat, hnn, c1])
    exact Run_count_no hC hP hE rfl rfl (name := [116, 111, 117, 99, 104]) (behind := behind) (quiet := q) rfl (by omega) (mp_fault hC Nat.zero_lt_one rfl (f := f_unknown) (by simp [plainR, hoff, hnn, hc]) rfl)
theorem plain_delete {w : World} {g : Nat} {a : Option Addr} {c : Nat} {ws : List (List UInt8)} {behind : List UInt8} (h : Ln w g [100, 101, 108, 101, 116, 101] a ws.length c ws behind 0 false) (hn : ws.length ≤ 100000) (hl : ∀ x ∈ ws, x.length ≤ 100000) (hE0 : EnvG g w) :
    Calls Tryz.prog 56 #[.pointer (some ⟨g, 0, none⟩)] w (MP F1 g w (plainR [100, 101, 108, 101, 116, 101] ws)) := by
  obtain ⟨w1, q, hoff⟩ : ∃ w1 q, offF ws = (w1, q) := ⟨_, _, rfl⟩
  have hpre := off_len ws
  rw [hoff] at hpre
  simp only at hpre
  have hl1 : ∀ x ∈ w1, x.length ≤ 9223372036854775807 := fun x hx => by rw [hpre] at hx; have := hl x (List.mem_of_mem_take hx); omega
  obtain ⟨n, hnn⟩ : ∃ n, w1.length = n := ⟨_, rfl⟩
  have hnc : n ≤ 100000 := by have := congrArg List.length hpre; rw [List.length_take] at this; omega
  refine calls_of_Run Tryz.func56 rfl kp56 (S := One g) (ρ := fun _ => reOfV g) [.c (.p 0 0)] Tryz.ntmps56 (ln_at h.blk true (One g) (fun _ => rfl)) (by simp [SV.wf, SC.wf]) (by simp) ?_
  intro C hC hP hk
  have hLW : LW C g w := lw_of hC Nat.zero_lt_one rfl
  have hE : EnvCV C := hE0.C hLW.S hLW.w0
  have hW0 : ∀ w', Upd C.S C.w0 w' → RawSV w' g a ws := fun w' hu => by rw [hLW.S, hLW.w0] at hu; exact h.raw.upd hu
  have hW : ∀ w', Upd C.S C.w0 w' → RawSV w' g a w1 := fun w' hu => (hW0 w' hu).pre hpre
  have hr : ∀ (k : Nat) x, w1[k]? = some x → ∃ b o, a = some ⟨b, o, none⟩ ∧ C.rd b (o + k) 1 = some [.s x] := fun k x hx => (h.raw.pre hpre).rd (D := C) (by rw [hLW.S]; exact fun k hk => hk) hLW.w0 hx
  have hctr := tC2_ok hP hE hW hl1
  (refine VT_ok hctr (rs := res56) true 300 _ _ _ ?_; simp (maxSteps := 1000000) only [VT, jf, jg, jZ, ja, jd, je, VC, qA, qB, qC, qD, qE, qF, qG, qH, qI, qJ, qK, qL, qM, qN, qO, qP, qQ, qR, qS, qT, qU, qV, qW, qX, qY, qZ, qe, qf, qg, qh, qj, qk, ql, qm, qn, qo, qp, qq, q0t, qu, qv, ev, qw, qy, qz, zA, zB, zC, zD, zE, zF, zG, zH, zI, zJ, TE.sv, zK, zL, zM, ↓reduceIte, reduceCtorEq, Value.oneCell', Nat.reduceEqDiff, Nat.reduceAdd, Nat.reduceLT, Nat.reduceBEq, Nat.reduceSub, Nat.reduceLeDiff, zP, zQ, zR, zS, zT, zU, zV, zW, zX, zY, zZ, za, zb, zc, zd, ze, zf, zg, zh, zi, zj, zk, zl, zm, zn, zo, zp, zq, zr, zt, zu, zw, zx, zy, zz, cE, jA, jB, hap, killE, deadOf, rwE, cD, cO, jC, jD, jE, jF, jG, jH, jI, jJ, jK, jL, jM, jN, jO, jP, jQ, jR, jS, jT, jU, jV, jW, jX, jY, hP, hk, res56, kp56, tC2, tC1, tC0V, rowCount, rowLKey, rowLSec, rowNeedV, rowBad, rowSecs, rowParseV, lnC, hoff, Int.toNat_zero, Int.toNat_one, Nat.mul_one, Nat.zero_mul, Nat.add_zero, Int.le_refl, Nat.reduceMul, lb1, lb2, lb3, lb4, u8b, UInt8.reduceToNat])
  refine Run_hcall rfl (.t []) _ (off_h (C := C) hP hE (name := [100, 101, 108, 101, 116, 101]) (a := a) (c := c) (ws := ws) (behind := behind) (used := 0) (N := 0) rfl (by simp [zG]) h.cap (by omega) hLW.n0 hLW.r0 hW0 (fun q hq => by simp only [zG, zE] at hq; omega) rfl) (by simp [zG, zE]) (by simp) ?_
  by_cases hc1 : n = 1
  · obtain ⟨x, rfl⟩ := one_of' (hnn.trans hc1)
    have c1 : (decide ((1 : Int) ≤ ((1 : Nat) : Int)) && decide (((1 : Nat) : Int) ≤ 2)) = true := rfl
    obtain ⟨b, o, rfl, hr0⟩ := hr 0 x rfl
    have p0 : (0 : Int) < ((1 : Nat) : Int) := by decide
    have e1 : ((((1 : Nat) : Int)) == 1) = true := rfl
    cases hkb : keyB x with
    | false =>
      (refine VT_ok hctr (rs := res56) true 300 _ _ _ ?_; simp (maxSteps := 1000000) only [VT, jf, jg, jZ, ja, jd, je, VC, qA, qB, qC, qD, qE, qF, qG, qH, qI, qJ, qK, qL, qM, qN, qO, qP, qQ, qR, qS, qT, qU, qV, qW, qX, qY, qZ, qe, qf, qg, qh, qj, qk, ql, qm, qn, qo, qp, qq, q0t, qu, qv, ev, qw, qy, qz, zA, zB, zC, zD, zE, zF, zG, zH, zI, zJ, TE.sv, zK, zL, zM, ↓reduceIte, reduceCtorEq, Value.oneCell', Nat.reduceEqDiff, Nat.reduceAdd, Nat.reduceLT, Nat.reduceBEq, Nat.reduceSub, Nat.reduceLeDiff, zP, zQ, zR, zS, zT, zU, zV, zW, zX, zY, zZ, za, zb, zc, zd, ze, zf, zg, zh, zi, zj, zk, zl, zm, zn, zo, zp, zq, zr, zt, zu, zw, zx, zy, zz, cE, jA, jB, hap, killE, deadOf, rwE, cD, cO, jC, jD, jE, jF, jG, jH, jI, jJ, jK, jL, jM, jN, jO, jP, jQ, jR, jS, jT, jU, jV, jW, jX, jY, hP, hk, res56, kp56, tC2, tC1, tC0V, rowCount, rowLKey, rowLSec, rowNeedV, rowBad, rowSecs, rowParseV, lnC, hoff, Int.toNat_zero, Int.toNat_one, Nat.mul_one, Nat.zero_mul, Nat.add_zero, Int.le_refl, Nat.reduceMul, lb1, lb2, lb3, lb4, u8b, UInt8.reduceToNat, c1, hkb])
      exact Run_lkey_no hC hP hE hW hl1 rfl rfl (name := [100, 101, 108, 101, 116, 101]) (behind := behind) (quiet := q) (i := 0) (x := x) rfl (Int.le_refl _) p0 rfl hkb (mp_fault hC Nat.zero_lt_one rfl (f := f_format) (by simp [plainR, hoff, okKey, hkb]) rfl)
    | true =>
      (refine VT_ok hctr (rs := res56) true 300 _ _ _ ?_; simp (maxSteps := 1000000) only [VT, jf, jg, jZ, ja, jd, je, VC, qA, qB, qC, qD, qE, qF, qG, qH, qI, qJ, qK, qL, qM, qN, qO, qP, qQ, qR, qS, qT, qU, qV, qW, qX, qY, qZ, qe, qf, qg, qh, qj, qk, ql, qm, qn, qo, qp, qq, q0t, qu, qv, ev, qw, qy, qz, zA, zB, zC, zD, zE, zF, zG, zH, zI, zJ, TE.sv, zK, zL, zM, ↓reduceIte, reduceCtorEq, Value.oneCell', Nat.reduceEqDiff, Nat.reduceAdd, Nat.reduceLT, Nat.reduceBEq, Nat.reduceSub, Nat.reduceLeDiff, zP, zQ, zR, zS, zT, zU, zV, zW, zX, zY, zZ, za, zb, zc, zd, ze, zf, zg, zh, zi, zj, zk, zl, zm, zn, zo, zp, zq, zr, zt, zu, zw, zx, zy, zz, cE, jA, jB, hap, killE, deadOf, rwE, cD, cO, jC, jD, jE, jF, jG, jH, jI, jJ, jK, jL, jM, jN, jO, jP, jQ, jR, jS, jT, jU, jV, jW, jX, jY, hP, hk, res56, kp56, tC2, tC1, tC0V, rowCount, rowLKey, rowLSec, rowNeedV, rowBad, rowSecs, rowParseV, lnC, hoff, Int.toNat_zero, Int.toNat_one, Nat.mul_one, Nat.zero_mul, Nat.add_zero, Int.le_refl, Nat.reduceMul, lb1, lb2, lb3, lb4, u8b, UInt8.reduceToNat, c1, hkb, p0, hr0, e1])
      refine Run_hcall rfl _ _ (do_h (C := C) (name := [100, 101, 108, 101, 116, 101]) (W := .slice _ _ c) (behind := behind) (used := 0) (quiet := q) (mu := true) (M := 0) (N := 2) (V := .sl 2 0 1 1) (I := whole) (cs := [{ Cd.zero with op := 5, key := x }]) hP rfl rfl rfl (by simp [zG]) (by simp [zG]) (by decide) (by simp) (by simp) (fun ρ h1 h2 h3 => ⟨1, Nat.le_refl _, by simp [SC.den, h1]⟩) (fun pr h => h) (fun q hq => by simp only [zG, zE] at hq; omega) rfl) (by simp [zG, zE]) (by simp) ?_
      (refine VT_ok hctr (rs := res56) true 300 _ _ _ ?_; simp (maxSteps := 1000000) only [VT, jf, jg, jZ, ja, jd, je, VC, qA, qB, qC, qD, qE, qF, qG, qH, qI, qJ, qK, qL, qM, qN, qO, qP, qQ, qR, qS, qT, qU, qV, qW, qX, qY, qZ, qe, qf, qg, qh, qj, qk, ql, qm, qn, qo, qp, qq, q0t, qu, qv, ev, qw, qy, qz, zA, zB, zC, zD, zE, zF, zG, zH, zI, zJ, TE.sv, zK, zL, zM, ↓reduceIte, reduceCtorEq, Value.oneCell', Nat.reduceEqDiff, Nat.reduceAdd, Nat.reduceLT, Nat.reduceBEq, Nat.reduceSub, Nat.reduceLeDiff, zP, zQ, zR, zS, zT, zU, zV, zW, zX, zY, zZ, za, zb, zc, zd, ze, zf, zg, zh, zi, zj, zk, zl, zm, zn, zo, zp, zq, zr, zt, zu, zw, zx, zy, zz, cE, jA, jB, hap, killE, deadOf, rwE, cD, cO, jC, jD, jE, jF, jG, jH, jI, jJ, jK, jL, jM, jN, jO, jP, jQ, jR, jS, jT, jU, jV, jW, jX, jY, hP, hk, res56, kp56, tC2, tC1, tC0V, rowCount, rowLKey, rowLSec, rowNeedV, rowBad, rowSecs, rowParseV, lnC, hoff, Int.toNat_zero, Int.toNat_one, Nat.mul_one, Nat.zero_mul, Nat.add_zero, Int.le_refl, Nat.reduceMul, lb1, lb2, lb3, lb4, u8b, UInt8.reduceToNat, rqS, Rq.zero, flatG, reC, rcS])
      exact mp_cmd hC Nat.zero_lt_one rfl hres56 (r := doR [{ Cd.zero with op := 5, key := x }] q) (more := false) (used := 0) (by simp [plainR, hoff, okKey, hkb]) (N := 2) (by simp [doR]) (by simp [doR]) (fun ρ => rfl) rfl rfl (by decide)
  by_cases hc2 : n = 2
  · obtain ⟨x, y, rfl⟩ := two_of (hnn.trans hc2)
    have c1 : (decide ((1 : Int) ≤ ((2 : Nat) : Int)) && decide (((2 : Nat) : Int) ≤ 2)) = true := rfl
    obtain ⟨b, o, rfl, hr0⟩ := hr 0 x rfl
    have p0 : (0 : Int) < ((2 : Nat) : Int) := by decide
    obtain ⟨_, _, he, hr1⟩ := hr 1 y rfl
    cases he
    have p1 : (1 : Int) < ((2 : Nat) : Int) := by decide
    have p2 : (0 : Int) ≤ 1 := by decide
    have e1 : ((((2 : Nat) : Int)) == 1) = false := rfl
    cases hkb : keyB x with
    | false =>
      (refine VT_ok hctr (rs := res56) true 300 _ _ _ ?_; simp (maxSteps := 1000000) only [VT, jf, jg, jZ, ja, jd, je, VC, qA, qB, qC, qD, qE, qF, qG, qH, qI, qJ, qK, qL, qM, qN, qO, qP, qQ, qR, qS, qT, qU, qV, qW, qX, qY, qZ, qe, qf, qg, qh, qj, qk, ql, qm, qn, qo, qp, qq, q0t, qu, qv, ev, qw, qy, qz, zA, zB, zC, zD, zE, zF, zG, zH, zI, zJ, TE.sv, zK, zL, zM, ↓reduceIte, reduceCtorEq, Value.oneCell', Nat.reduceEqDiff, Nat.reduceAdd, Nat.reduceLT, Nat.reduceBEq, Nat.reduceSub, Nat.reduceLeDiff, zP, zQ, zR, zS, zT, zU, zV, zW, zX, zY, zZ, za, zb, zc, zd, ze, zf, zg, zh, zi, zj, zk, zl, zm, zn, zo, zp, zq, zr, zt, zu, zw, zx, zy, zz, cE, jA, jB, hap, killE, deadOf, rwE, cD, cO, jC, jD, jE, jF, jG, jH, jI, jJ, jK, jL, jM, jN, jO, jP, jQ, jR, jS, jT, jU, jV, jW, jX, jY, hP, hk, res56, kp56, tC2, tC1, tC0V, rowCount, rowLKey, rowLSec, rowNeedV, rowBad, rowSecs, rowParseV, lnC, hoff, Int.toNat_zero, Int.toNat_one, Nat.mul_one, Nat.zero_mul, Nat.add_zero, Int.le_refl, Nat.reduceMul, lb1, lb2, lb3, lb4, u8b, UInt8.reduceToNat, c1, hkb])
      exact Run_lkey_no hC hP hE hW hl1 rfl rfl (name := [100, 101, 108, 101, 116, 101]) (behind := behind) (quiet := q) (i := 0) (x := x) rfl (Int.le_refl _) p0 rfl hkb (mp_fault hC Nat.zero_lt_one rfl (f := f_format) (by simp [plainR, hoff, okKey, hkb]) rfl)
    | true =>
      cases hz : (y == [48]) with
      | false =>
        have hz' : ¬ y = [48] := by simpa using hz
        (refine VT_ok hctr (rs := res56) true 300 _ _ _ ?_; simp (maxSteps := 1000000) only [VT, jf, jg, jZ, ja, jd, je, VC, qA, qB, qC, qD, qE, qF, qG, qH, qI, qJ, qK, qL, qM, qN, qO, qP, qQ, qR, qS, qT, qU, qV, qW, qX, qY, qZ, qe, qf, qg, qh, qj, qk, ql, qm, qn, qo, qp, qq, q0t, qu, qv, ev, qw, qy, qz, zA, zB, zC, zD, zE, zF, zG, zH, zI, zJ, TE.sv, zK, zL, zM, ↓reduceIte, reduceCtorEq, Value.oneCell', Nat.reduceEqDiff, Nat.reduceAdd, Nat.reduceLT, Nat.reduceBEq, Nat.reduceSub, Nat.reduceLeDiff, zP, zQ, zR, zS, zT, zU, zV, zW, zX, zY, zZ, za, zb, zc, zd, ze, zf, zg, zh, zi, zj, zk, zl, zm, zn, zo, zp, zq, zr, zt, zu, zw, zx, zy, zz, cE, jA, jB, hap, killE, deadOf, rwE, cD, cO, jC, jD, jE, jF, jG, jH, jI, jJ, jK, jL, jM, jN, jO, jP, jQ, jR, jS, jT, jU, jV, jW, jX, jY, hP, hk, res56, kp56, tC2, tC1, tC0V, rowCount, rowLKey, rowLSec, rowNeedV, rowBad, rowSecs, rowParseV, lnC, hoff, Int.toNat_zero, Int.toNat_one, Nat.mul_one, Nat.zero_mul, Nat.add_zero, Int.le_refl, Nat.reduceMul, lb1, lb2, lb3, lb4, u8b, UInt8.reduceToNat, c1, hkb, p0, p1, p2, hr0, hr1, e1, hz])
        exact Run_need hC hP rfl rfl (mp_fault hC Nat.zero_lt_one rfl (f := f_format) (by simp [plainR, hoff, okKey, hkb, hz']) rfl)
      | true =>
        have hz' : y = [48] := by simpa using hz
        (refine VT_ok hctr (rs := res56) true 300 _ _ _ ?_; simp (maxSteps := 1000000) only [VT, jf, jg, jZ, ja, jd, je, VC, qA, qB, qC, qD, qE, qF, qG, qH, qI, qJ, qK, qL, qM, qN, qO, qP, qQ, qR, qS, qT, qU, qV, qW, qX, qY, qZ, qe, qf, qg, qh, qj, qk, ql, qm, qn, qo, qp, qq, q0t, qu, qv, ev, qw, qy, qz, zA, zB, zC, zD, zE, zF, zG, zH, zI, zJ, TE.sv, zK, zL, zM, ↓reduceIte, reduceCtorEq, Value.oneCell', Nat.reduceEqDiff, Nat.reduceAdd, Nat.reduceLT, Nat.reduceBEq, Nat.reduceSub, Nat.reduceLeDiff, zP, zQ, zR, zS, zT, zU, zV, zW, zX, zY, zZ, za, zb, zc, zd, ze, zf, zg, zh, zi, zj, zk, zl, zm, zn, zo, zp, zq, zr, zt, zu, zw, zx, zy, zz, cE, jA, jB, hap, killE, deadOf, rwE, cD, cO, jC, jD, jE, jF, jG, jH, jI, jJ, jK, jL, jM, jN, jO, jP, jQ, jR, jS, jT, jU, jV, jW, jX, jY, hP, hk, res56, kp56, tC2, tC1, tC0V, rowCount, rowLKey, rowLSec, rowNeedV, rowBad, rowSecs, rowParseV, lnC, hoff, Int.toNat_zero, Int.toNat_one, Nat.mul_one, Nat.zero_mul, Nat.add_zero, Int.le_refl, Nat.reduceMul, lb1, lb2, lb3, lb4, u8b, UInt8.reduceToNat, c1, hkb, p0, p1, p2, hr0, hr1, e1, hz])
        refine Run_hcall rfl _ _ (do_h (C := C) (name := [100, 101, 108, 101, 116, 101]) (W := .slice _ _ c) (behind := behind) (used := 0) (quiet := q) (mu := true) (M := 0) (N := 2) (V := .sl 2 0 1 1) (I := whole) (cs := [{ Cd.zero with op := 5, key := x }]) hP rfl rfl rfl (by simp [zG]) (by simp [zG]) (by decide) (by simp) (by simp) (fun ρ h1 h2 h3 => ⟨1, Nat.le_refl _, by simp [SC.den, h1]⟩) (fun pr h => h) (fun q hq => by simp only [zG, zE] at hq; omega) rfl) (by simp [zG, zE]) (by simp) ?_
        (refine VT_ok hctr (rs := res56) true 300 _ _ _ ?_; simp (maxSteps := 1000000) only [VT, jf, jg, jZ, ja, jd, je, VC, qA, qB, qC, qD, qE, qF, qG, qH, qI, qJ, qK, qL, qM, qN, qO, qP, qQ, qR, qS, qT, qU, qV, qW, qX, qY, qZ, qe, qf, qg, qh, qj, qk, ql, qm, qn, qo, qp, qq, q0t, qu, qv, ev, qw, qy, qz, zA, zB, zC, zD, zE, zF, zG, zH, zI, zJ, TE.sv, zK, zL, zM, ↓reduceIte, reduceCtorEq, Value.oneCell', Nat.reduceEqDiff, Nat.reduceAdd, Nat.reduceLT, Nat.reduceBEq, Nat.reduceSub, Nat.reduceLeDiff, zP, zQ, zR, zS, zT, zU, zV, zW, zX, zY, zZ, za, zb, zc, zd, ze, zf, zg, zh, zi, zj, zk, zl, zm, zn, zo, zp, zq, zr, zt, zu, zw, zx, zy, zz, cE, jA, jB, hap, killE, deadOf, rwE, cD, cO, jC, jD, jE, jF, jG, jH, jI, jJ, jK, jL, jM, jN, jO, jP, jQ, jR, jS, jT, jU, jV, jW, jX, jY, hP, hk, res56, kp56, tC2, tC1, tC0V, rowCount, rowLKey, rowLSec, rowNeedV, rowBad, rowSecs, rowParseV, lnC, hoff, Int.toNat_zero, Int.toNat_one, Nat.mul_one, Nat.zero_mul, Nat.add_zero, Int.le_refl, Nat.reduceMul, lb1, lb2, lb3, lb4, u8b, UInt8.reduceToNat, rqS, Rq.zero, flatG, reC, rcS])
        exact mp_cmd hC Nat.zero_lt_one rfl hres56 (r := doR [{ Cd.zero with op := 5, key := x }] q) (more := false) (used := 0) (by simp [plainR, hoff, okKey, hkb, hz']) (N := 2) (by simp [doR]) (by simp [doR]) (fun ρ => rfl) rfl rfl (by decide)
  · have hc3 : n = 0 ∨ 2 < n := by omega
    have c1 : (decide ((1 : Int) ≤ (n : Int)) && decide ((n : Int) ≤ 2)) = false := by
      rw [Bool.and_eq_false_iff]; simp only [decide_eq_false_iff_not]; omega
    (refine VT_ok hctr (rs := res56) true 300 _ _ _ ?_; simp (maxSteps := 1000000) only [VT, jf, jg, jZ, ja, jd, je, VC, qA, qB, qC, qD, qE, qF, qG, qH, qI, qJ, qK, qL, qM, qN, qO, qP, qQ, qR, qS, qT, qU, qV, qW, qX, qY, qZ, qe, qf, qg, qh, qj, qk, ql, qm, qn, qo, qp, qq, q0t, qu, qv, ev, qw, qy, qz, zA, zB, zC, zD, zE, zF, zG, zH, zI, zJ, TE.sv, zK, zL, zM, ↓reduceIte, reduceCtorEq, Value.oneCell', Nat.reduceEqDiff, Nat.reduceAdd, Nat.reduceLT, Nat.reduceBEq, Nat.reduceSub, Nat.reduceLeDiff, zP, zQ, zR, zS, zT, zU, zV, zW, zX, zY, zZ, za, zb, zc, zd, ze, zf, zg, zh, zi, zj, zk, zl, zm, zn, zo, zp, zq, zr, zt, zu, zw, zx, zy, zz, cE, jA, jB, hap, killE, deadOf, rwE, cD, cO, jC, jD, jE, jF, jG, jH, jI, jJ, jK, jL, jM, jN, jO, jP, jQ, jR, jS, jT, jU, jV, jW, jX, jY, hP, hk, res56, kp56, tC2, tC1, tC0V, rowCount, rowLKey, rowLSec, rowNeedV, rowBad, rowSecs, rowParseV, lnC, hoff, Int.toNat_zero, Int.toNat_one, Nat.mul_one, Nat.zero_mul, Nat.add_zero, Int.le_refl, Nat.reduceMul, lb1, lb2, lb3, lb4, u8b, UInt8.reduceToNat, hnn, c1])
    exact Run_count_no hC hP hE rfl rfl (name := [100, 101, 108, 101, 116, 101]) (behind := behind) (quiet := q) rfl (by omega) (mp_fault hC Nat.zero_lt_one rfl (f := f_unknown) (by simp [plainR, hoff, hnn, hc3]) rfl)
theorem plain_flush_all {w : World} {g : Nat} {a : Option Addr} {c : Nat} {ws : List (List UInt8)} {behind : List UInt8} (h : Ln w g [102, 108, 117, 115, 104, 95, 97, 108, 108] a ws.length c ws behind 0 false) (hn : ws.length ≤ 100000) (hl : ∀ x ∈ ws, x.length ≤ 100000) (hE0 : EnvG g w) :
    Calls Tryz.prog 56 #[.pointer (some ⟨g, 0, none⟩)] w (MP F1 g w (plainR [102, 108, 117, 115, 104, 95, 97, 108, 108] ws)) := by
  obtain ⟨w1, q, hoff⟩ : ∃ w1 q, offF ws = (w1, q) := ⟨_, _, rfl⟩
  have hpre := off_len ws
  rw [hoff] at hpre
  simp only at hpre
  have hl1 : ∀ x ∈ w1, x.length ≤ 9223372036854775807 := fun x hx => by rw [hpre] at hx; have := hl x (List.mem_of_mem_take hx); omega
  obtain ⟨n, hnn⟩ : ∃ n, w1.length = n := ⟨_, rfl⟩
  have hnc : n ≤ 100000 := by have := congrArg List.length hpre; rw [List.length_take] at this; omega
  refine calls_of_Run Tryz.func56 rfl kp56 (S := One g) (ρ := fun _ => reOfV g) [.c (.p 0 0)] Tryz.ntmps56 (ln_at h.blk true (One g) (fun _ => rfl)) (by simp [SV.wf, SC.wf]) (by simp) ?_
  intro C hC hP hk
  have hLW : LW C g w := lw_of hC Nat.zero_lt_one rfl
  have hE : EnvCV C := hE0.C hLW.S hLW.w0
  have hW0 : ∀ w', Upd C.S C.w0 w' → RawSV w' g a ws := fun w' hu => by rw [hLW.S, hLW.w0] at hu; exact h.raw.upd hu
  have hW : ∀ w', Upd C.S C.w0 w' → RawSV w' g a w1 := fun w' hu => (hW0 w' hu).pre hpre
  have hr : ∀ (k : Nat) x, w1[k]? = some x → ∃ b o, a = some ⟨b, o, none⟩ ∧ C.rd b (o + k) 1 = some [.s x] := fun k x hx => (h.raw.pre hpre).rd (D := C) (by rw [hLW.S]; exact fun k hk => hk) hLW.w0 hx
  have hctr := tC2_ok hP hE hW hl1
  (refine VT_ok hctr (rs := res56) true 300 _ _ _ ?_; simp (maxSteps := 1000000) only [VT, jf, jg, jZ, ja, jd, je, VC, qA, qB, qC, qD, qE, qF, qG, qH, qI, qJ, qK, qL, qM, qN, qO, qP, qQ, qR, qS, qT, qU, qV, qW, qX, qY, qZ, qe, qf, qg, qh, qj, qk, ql, qm, qn, qo, qp, qq, q0t, qu, qv, ev, qw, qy, qz, zA, zB, zC, zD, zE, zF, zG, zH, zI, zJ, TE.sv, zK, zL, zM, ↓reduceIte, reduceCtorEq, Value.oneCell', Nat.reduceEqDiff, Nat.reduceAdd, Nat.reduceLT, Nat.reduceBEq, Nat.reduceSub, Nat.reduceLeDiff, zP, zQ, zR, zS, zT, zU, zV, zW, zX, zY, zZ, za, zb, zc, zd, ze, zf, zg, zh, zi, zj, zk, zl, zm, zn, zo, zp, zq, zr, zt, zu, zw, zx, zy, zz, cE, jA, jB, hap, killE, deadOf, rwE, cD, cO, jC, jD, jE, jF, jG, jH, jI, jJ, jK, jL, jM, jN, jO, jP, jQ, jR, jS, jT, jU, jV, jW, jX, jY, hP, hk, res56, kp56, tC2, tC1, tC0V, rowCount, rowLKey, rowLSec, rowNeedV, rowBad, rowSecs, rowParseV, lnC, hoff, Int.toNat_zero, Int.toNat_one, Nat.mul_one, Nat.zero_mul, Nat.add_zero, Int.le_refl, Nat.reduceMul, lb1, lb2, lb3, lb4, u8b, UInt8.reduceToNat])
  refine Run_hcall rfl (.t []) _ (off_h (C := C) hP hE (name := [102, 108, 117, 115, 104, 95, 97, 108, 108]) (a := a) (c := c) (ws := ws) (behind := behind) (used := 0) (N := 0) rfl (by simp [zG]) h.cap (by omega) hLW.n0 hLW.r0 hW0 (fun q hq => by simp only [zG, zE] at hq; omega) rfl) (by simp [zG, zE]) (by simp) ?_
  by_cases hc0 : n = 0
  · obtain rfl : w1 = [] := List.eq_nil_of_length_eq_zero (hnn.trans hc0)
    have c1 : (decide ((0 : Int) ≤ ((0 : Nat) : Int)) && decide (((0 : Nat) : Int) ≤ 1)) = true := rfl
    have e1 : ((((0 : Nat) : Int)) == 1) = false := rfl
    (refine VT_ok hctr (rs := res56) true 300 _ _ _ ?_; simp (maxSteps := 1000000) only [VT, jf, jg, jZ, ja, jd, je, VC, qA, qB, qC, qD, qE, qF, qG, qH, qI, qJ, qK, qL, qM, qN, qO, qP, qQ, qR, qS, qT, qU, qV, qW, qX, qY, qZ, qe, qf, qg, qh, qj, qk, ql, qm, qn, qo, qp, qq, q0t, qu, qv, ev, qw, qy, qz, zA, zB, zC, zD, zE, zF, zG, zH, zI, zJ, TE.sv, zK, zL, zM, ↓reduceIte, reduceCtorEq, Value.oneCell', Nat.reduceEqDiff, Nat.reduceAdd, Nat.reduceLT, Nat.reduceBEq, Nat.reduceSub, Nat.reduceLeDiff, zP, zQ, zR, zS, zT, zU, zV, zW, zX, zY, zZ, za, zb, zc, zd, ze, zf, zg, zh, zi, zj, zk, zl, zm, zn, zo, zp, zq, zr, zt, zu, zw, zx, zy, zz, cE, jA, jB, hap, killE, deadOf, rwE, cD, cO, jC, jD, jE, jF, jG, jH, jI, jJ, jK, jL, jM, jN, jO, jP, jQ, jR, jS, jT, jU, jV, jW, jX, jY, hP, hk, res56, kp56, tC2, tC1, tC0V, rowCount, rowLKey, rowLSec, rowNeedV, rowBad, rowSecs, rowParseV, lnC, hoff, Int.toNat_zero, Int.toNat_one, Nat.mul_one, Nat.zero_mul, Nat.add_zero, Int.le_refl, Nat.reduceMul, lb1, lb2, lb3, lb4, u8b, UInt8.reduceToNat, c1, e1])
    refine Run_hcall rfl _ _ (do_h (C := C) (name := [102, 108, 117, 115, 104, 95, 97, 108, 108]) (W := .slice _ _ c) (behind := behind) (used := 0) (quiet := q) (mu := true) (M := 0) (N := 3) (V := .sl 3 0 1 1) (I := whole) (cs := [{ Cd.zero with op := 6 }]) hP rfl rfl rfl (by simp [zG]) (by simp [zG]) (by decide) (by simp) (by simp) (fun ρ h1 h2 h3 => ⟨1, Nat.le_refl _, by simp [SC.den, h1]⟩) (fun pr h => h) (fun q hq => by simp only [zG, zE] at hq; omega) rfl) (by simp [zG, zE]) (by simp) ?_
    (refine VT_ok hctr (rs := res56) true 300 _ _ _ ?_; simp (maxSteps := 1000000) only [VT, jf, jg, jZ, ja, jd, je, VC, qA, qB, qC, qD, qE, qF, qG, qH, qI, qJ, qK, qL, qM, qN, qO, qP, qQ, qR, qS, qT, qU, qV, qW, qX, qY, qZ, qe, qf, qg, qh, qj, qk, ql, qm, qn, qo, qp, qq, q0t, qu, qv, ev, qw, qy, qz, zA, zB, zC, zD, zE, zF, zG, zH, zI, zJ, TE.sv, zK, zL, zM, ↓reduceIte, reduceCtorEq, Value.oneCell', Nat.reduceEqDiff, Nat.reduceAdd, Nat.reduceLT, Nat.reduceBEq, Nat.reduceSub, Nat.reduceLeDiff, zP, zQ, zR, zS, zT, zU, zV, zW, zX, zY, zZ, za, zb, zc, zd, ze, zf, zg, zh, zi, zj, zk, zl, zm, zn, zo, zp, zq, zr, zt, zu, zw, zx, zy, zz, cE, jA, jB, hap, killE, deadOf, rwE, cD, cO, jC, jD, jE, jF, jG, jH, jI, jJ, jK, jL, jM, jN, jO, jP, jQ, jR, jS, jT, jU, jV, jW, jX, jY, hP, hk, res56, kp56, tC2, tC1, tC0V, rowCount, rowLKey, rowLSec, rowNeedV, rowBad, rowSecs, rowParseV, lnC, hoff, Int.toNat_zero, Int.toNat_one, Nat.mul_one, Nat.zero_mul, Nat.add_zero, Int.le_refl, Nat.reduceMul, lb1, lb2, lb3, lb4, u8b, UInt8.reduceToNat, rqS, Rq.zero, flatG, reC, rcS])
    exact mp_cmd hC Nat.zero_lt_one rfl hres56 (r := doR [{ Cd.zero with op := 6 }] q) (more := false) (used := 0) (by simp [plainR, hoff]) (N := 3) (by simp [doR]) (by simp [doR]) (fun ρ => rfl) rfl rfl (by decide)
  by_cases hc1 : n = 1
  · obtain ⟨x, rfl⟩ := one_of' (hnn.trans hc1)
    have c1 : (decide ((0 : Int) ≤ ((1 : Nat) : Int)) && decide (((1 : Nat) : Int) ≤ 1)) = true := rfl
    have e1 : ((((1 : Nat) : Int)) == 1) = true := rfl
    obtain ⟨b, o, rfl, hr0⟩ := hr 0 x rfl
    have p0 : (0 : Int) < ((1 : Nat) : Int) := by decide
    cases hs : (secF x).2 with
    | false =>
      (refine VT_ok hctr (rs := res56) true 300 _ _ _ ?_; simp (maxSteps := 1000000) only [VT, jf, jg, jZ, ja, jd, je, VC, qA, qB, qC, qD, qE, qF, qG, qH, qI, qJ, qK, qL, qM, qN, qO, qP, qQ, qR, qS, qT, qU, qV, qW, qX, qY, qZ, qe, qf, qg, qh, qj, qk, ql, qm, qn, qo, qp, qq, q0t, qu, qv, ev, qw, qy, qz, zA, zB, zC, zD, zE, zF, zG, zH, zI, zJ, TE.sv, zK, zL, zM, ↓reduceIte, reduceCtorEq, Value.oneCell', Nat.reduceEqDiff, Nat.reduceAdd, Nat.reduceLT, Nat.reduceBEq, Nat.reduceSub, Nat.reduceLeDiff, zP, zQ, zR, zS, zT, zU, zV, zW, zX, zY, zZ, za, zb, zc, zd, ze, zf, zg, zh, zi, zj, zk, zl, zm, zn, zo, zp, zq, zr, zt, zu, zw, zx, zy, zz, cE, jA, jB, hap, killE, deadOf, rwE, cD, cO, jC, jD, jE, jF, jG, jH, jI, jJ, jK, jL, jM, jN, jO, jP, jQ, jR, jS, jT, jU, jV, jW, jX, jY, hP, hk, res56, kp56, tC2, tC1, tC0V, rowCount, rowLKey, rowLSec, rowNeedV, rowBad, rowSecs, rowParseV, lnC, hoff, Int.toNat_zero, Int.toNat_one, Nat.mul_one, Nat.zero_mul, Nat.add_zero, Int.le_refl, Nat.reduceMul, lb1, lb2, lb3, lb4, u8b, UInt8.reduceToNat, c1, e1, p0, hs])
      exact Run_lsec_no hC hP hE hW hl1 rfl rfl (name := [102, 108, 117, 115, 104, 95, 97, 108, 108]) (behind := behind) (quiet := q) (i := 0) (x := x) rfl (Int.le_refl _) p0 rfl hs (mp_fault hC Nat.zero_lt_one rfl (f := f_exptime) (by simp [plainR, hoff, hs]) rfl)
    | true =>
      (refine VT_ok hctr (rs := res56) true 300 _ _ _ ?_; simp (maxSteps := 1000000) only [VT, jf, jg, jZ, ja, jd, je, VC, qA, qB, qC, qD, qE, qF, qG, qH, qI, qJ, qK, qL, qM, qN, qO, qP, qQ, qR, qS, qT, qU, qV, qW, qX, qY, qZ, qe, qf, qg, qh, qj, qk, ql, qm, qn, qo, qp, qq, q0t, qu, qv, ev, qw, qy, qz, zA, zB, zC, zD, zE, zF, zG, zH, zI, zJ, TE.sv, zK, zL, zM, ↓reduceIte, reduceCtorEq, Value.oneCell', Nat.reduceEqDiff, Nat.reduceAdd, Nat.reduceLT, Nat.reduceBEq, Nat.reduceSub, Nat.reduceLeDiff, zP, zQ, zR, zS, zT, zU, zV, zW, zX, zY, zZ, za, zb, zc, zd, ze, zf, zg, zh, zi, zj, zk, zl, zm, zn, zo, zp, zq, zr, zt, zu, zw, zx, zy, zz, cE, jA, jB, hap, killE, deadOf, rwE, cD, cO, jC, jD, jE, jF, jG, jH, jI, jJ, jK, jL, jM, jN, jO, jP, jQ, jR, jS, jT, jU, jV, jW, jX, jY, hP, hk, res56, kp56, tC2, tC1, tC0V, rowCount, rowLKey, rowLSec, rowNeedV, rowBad, rowSecs, rowParseV, lnC, hoff, Int.toNat_zero, Int.toNat_one, Nat.mul_one, Nat.zero_mul, Nat.add_zero, Int.le_refl, Nat.reduceMul, lb1, lb2, lb3, lb4, u8b, UInt8.reduceToNat, c1, e1, p0, hr0, hs])
      refine Run_hcall rfl _ _ (do_h (C := C) (name := [102, 108, 117, 115, 104, 95, 97, 108, 108]) (W := .slice _ _ c) (behind := behind) (used := 0) (quiet := q) (mu := true) (M := 0) (N := 3) (V := .sl 3 0 1 1) (I := whole) (cs := [{ Cd.zero with op := 6, exp := (secF x).1 }]) hP rfl rfl rfl (by simp [zG]) (by simp [zG]) (by decide) (by simp) (by simp) (fun ρ h1 h2 h3 => ⟨1, Nat.le_refl _, by simp [SC.den, h1]⟩) (fun pr h => h) (fun q hq => by simp only [zG, zE] at hq; omega) rfl) (by simp [zG, zE]) (by simp) ?_
      (refine VT_ok hctr (rs := res56) true 300 _ _ _ ?_; simp (maxSteps := 1000000) only [VT, jf, jg, jZ, ja, jd, je, VC, qA, qB, qC, qD, qE, qF, qG, qH, qI, qJ, qK, qL, qM, qN, qO, qP, qQ, qR, qS, qT, qU, qV, qW, qX, qY, qZ, qe, qf, qg, qh, qj, qk, ql, qm, qn, qo, qp, qq, q0t, qu, qv, ev, qw, qy, qz, zA, zB, zC, zD, zE, zF, zG, zH, zI, zJ, TE.sv, zK, zL, zM, ↓reduceIte, reduceCtorEq, Value.oneCell', Nat.reduceEqDiff, Nat.reduceAdd, Nat.reduceLT, Nat.reduceBEq, Nat.reduceSub, Nat.reduceLeDiff, zP, zQ, zR, zS, zT, zU, zV, zW, zX, zY, zZ, za, zb, zc, zd, ze, zf, zg, zh, zi, zj, zk, zl, zm, zn, zo, zp, zq, zr, zt, zu, zw, zx, zy, zz, cE, jA, jB, hap, killE, deadOf, rwE, cD, cO, jC, jD, jE, jF, jG, jH, jI, jJ, jK, jL, jM, jN, jO, jP, jQ, jR, jS, jT, jU, jV, jW, jX, jY, hP, hk, res56, kp56, tC2, tC1, tC0V, rowCount, rowLKey, rowLSec, rowNeedV, rowBad, rowSecs, rowParseV, lnC, hoff, Int.toNat_zero, Int.toNat_one, Nat.mul_one, Nat.zero_mul, Nat.add_zero, Int.le_refl, Nat.reduceMul, lb1, lb2, lb3, lb4, u8b, UInt8.reduceToNat, rqS, Rq.zero, flatG, reC, rcS])
      exact mp_cmd hC Nat.zero_lt_one rfl hres56 (r := doR [{ Cd.zero with op := 6, exp := (secF x).1 }] q) (more := false) (used := 0) (by simp [plainR, hoff, hs]) (N := 3) (by simp [doR]) (by simp [doR]) (fun ρ => rfl) rfl rfl (by decide)
  · have hc : 1 < n := by omega
    have c1 : (decide ((0 : Int) ≤ (n : Int)) && decide ((n : Int) ≤ 1)) = false := by
      rw [Bool.and_eq_false_iff]; simp only [decide_eq_false_iff_not]; omega
    (refine VT_ok hctr (rs := res56) true 300 _ _ _ ?_; simp (maxSteps := 1000000) only [VT, jf, jg, jZ, ja, jd, je, VC, qA, qB, qC, qD, qE, qF, qG, qH, qI, qJ, qK, qL, qM, qN, qO, qP, qQ, qR, qS, qT, qU, qV, qW, qX, qY, qZ, qe, qf, qg, qh, qj, qk, ql, qm, qn, qo, qp, qq, q0t, qu, qv, ev, qw, qy, qz, zA, zB, zC, zD, zE, zF, zG, zH, zI, zJ, TE.sv, zK, zL, zM, ↓reduceIte, reduceCtorEq, Value.oneCell', Nat.reduceEqDiff, Nat.reduceAdd, Nat.reduceLT, Nat.reduceBEq, Nat.reduceSub, Nat.reduceLeDiff, zP, zQ, zR, zS, zT, zU, zV, zW, zX, zY, zZ, za, zb, zc, zd, ze, zf, zg, zh, zi, zj, zk, zl, zm, zn, zo, zp, zq, zr, zt, zu, zw, zx, zy, zz, cE, jA, jB, hap, killE, deadOf, rwE, cD, cO, jC, jD, jE, jF, jG, jH, jI, jJ, jK, jL, jM, jN, jO, jP, jQ, jR, jS, jT, jU, jV, jW, jX, jY, hP, hk, res56, kp56, tC2, tC1, tC0V, rowCount, rowLKey, rowLSec, rowNeedV, rowBad, rowSecs, rowParseV, lnC, hoff, Int.toNat_zero, Int.toNat_one, Nat.mul_one, Nat.zero_mul, Nat.add_zero, Int.le_refl, Nat.reduceMul, lb1, lb2, lb3, lb4, u8b, UInt8.reduceToNat, hnn, c1])
    exact Run_count_no hC hP hE rfl rfl (name := [102, 108, 117, 115, 104, 95, 97, 108, 108]) (behind := behind) (quiet := q) rfl (by omega) (mp_fault hC Nat.zero_lt_one rfl (f := f_unknown) (by simp [plainR, hoff, hnn, hc]) rfl)
theorem plain_verbosity {w : World} {g : Nat} {a : Option Addr} {c : Nat} {ws : List (List UInt8)} {behind : List UInt8} (h : Ln w g [118, 101, 114, 98, 111, 115, 105, 116, 121] a ws.length c ws behind 0 false) (hn : ws.length ≤ 100000) (hl : ∀ x ∈ ws, x.length ≤ 100000) (hE0 : EnvG g w) :
    Calls Tryz.prog 56 #[.pointer (some ⟨g, 0, none⟩)] w (MP F1 g w (plainR [118, 101, 114, 98, 111, 115, 105, 116, 121] ws)) := by
  obtain ⟨w1, q, hoff⟩ : ∃ w1 q, offF ws = (w1, q) := ⟨_, _, rfl⟩
  have hpre := off_len ws
  rw [hoff] at hpre
  simp only at hpre
  have hl1 : ∀ x ∈ w1, x.length ≤ 9223372036854775807 := fun x hx => by rw [hpre] at hx; have := hl x (List.mem_of_mem_take hx); omega
  obtain ⟨n, hnn⟩ : ∃ n, w1.length = n := ⟨_, rfl⟩
  have hnc : n ≤ 100000 := by have := congrArg List.length hpre; rw [List.length_take] at this; omega
  refine calls_of_Run Tryz.func56 rfl kp56 (S := One g) (ρ := fun _ => reOfV g) [.c (.p 0 0)] Tryz.ntmps56 (ln_at h.blk true (One g) (fun _ => rfl)) (by simp [SV.wf, SC.wf]) (by simp) ?_
  intro C hC hP hk
  have hLW : LW C g w := lw_of hC Nat.zero_lt_one rfl
  have hE : EnvCV C := hE0.C hLW.S hLW.w0
  have hW0 : ∀ w', Upd C.S C.w0 w' → RawSV w' g a ws := fun w' hu => by rw [hLW.S, hLW.w0] at hu; exact h.raw.upd hu
  have hW : ∀ w', Upd C.S C.w0 w' → RawSV w' g a w1 := fun w' hu => (hW0 w' hu).pre hpre
  have hr : ∀ (k : Nat) x, w1[k]? = some x → ∃ b o, a = some ⟨b, o, none⟩ ∧ C.rd b (o + k) 1 = some [.s x] := fun k x hx => (h.raw.pre hpre).rd (D := C) (by rw [hLW.S]; exact fun k hk => hk) hLW.w0 hx
  have hctr := tC2_ok hP hE hW hl1
  (refine VT_ok hctr (rs := res56) true 300 _ _ _ ?_; simp (maxSteps := 1000000) only [VT, jf, jg, jZ, ja, jd, je, VC, qA, qB, qC, qD, qE, qF, qG, qH, qI, qJ, qK, qL, qM, qN, qO, qP, qQ, qR, qS, qT, qU, qV, qW, qX, qY, qZ, qe, qf, qg, qh, qj, qk, ql, qm, qn, qo, qp, qq, q0t, qu, qv, ev, qw, qy, qz, zA, zB, zC, zD, zE, zF, zG, zH, zI, zJ, TE.sv, zK, zL, zM, ↓reduceIte, reduceCtorEq, Value.oneCell', Nat.reduceEqDiff, Nat.reduceAdd, Nat.reduceLT, Nat.reduceBEq, Nat.reduceSub, Nat.reduceLeDiff, zP, zQ, zR, zS, zT, zU, zV, zW, zX, zY, zZ, za, zb, zc, zd, ze, zf, zg, zh, zi, zj, zk, zl, zm, zn, zo, zp, zq, zr, zt, zu, zw, zx, zy, zz, cE, jA, jB, hap, killE, deadOf, rwE, cD, cO, jC, jD, jE, jF, jG, jH, jI, jJ, jK, jL, jM, jN, jO, jP, jQ, jR, jS, jT, jU, jV, jW, jX, jY, hP, hk, res56, kp56, tC2, tC1, tC0V, rowCount, rowLKey, rowLSec, rowNeedV, rowBad, rowSecs, rowParseV, lnC, hoff, Int.toNat_zero, Int.toNat_one, Nat.mul_one, Nat.zero_mul, Nat.add_zero, Int.le_refl, Nat.reduceMul, lb1, lb2, lb3, lb4, u8b, UInt8.reduceToNat])
  refine Run_hcall rfl (.t []) _ (off_h (C := C) hP hE (name := [118, 101, 114, 98, 111, 115, 105, 116, 121]) (a := a) (c := c) (ws := ws) (behind := behind) (used := 0) (N := 0) rfl (by simp [zG]) h.cap (by omega) hLW.n0 hLW.r0 hW0 (fun q hq => by simp only [zG, zE] at hq; omega) rfl) (by simp [zG, zE]) (by simp) ?_
  by_cases hc : n = 1
  · obtain ⟨x, rfl⟩ := one_of' (hnn.trans hc)
    have c1 : (decide ((1 : Int) ≤ ((1 : Nat) : Int)) && decide (((1 : Nat) : Int) ≤ 1)) = true := rfl
    (refine VT_ok hctr (rs := res56) true 300 _ _ _ ?_; simp (maxSteps := 1000000) only [VT, jf, jg, jZ, ja, jd, je, VC, qA, qB, qC, qD, qE, qF, qG, qH, qI, qJ, qK, qL, qM, qN, qO, qP, qQ, qR, qS, qT, qU, qV, qW, qX, qY, qZ, qe, qf, qg, qh, qj, qk, ql, qm, qn, qo, qp, qq, q0t, qu, qv, ev, qw, qy, qz, zA, zB, zC, zD, zE, zF, zG, zH, zI, zJ, TE.sv, zK, zL, zM, ↓reduceIte, reduceCtorEq, Value.oneCell', Nat.reduceEqDiff, Nat.reduceAdd, Nat.reduceLT, Nat.reduceBEq, Nat.reduceSub, Nat.reduceLeDiff, zP, zQ, zR, zS, zT, zU, zV, zW, zX, zY, zZ, za, zb, zc, zd, ze, zf, zg, zh, zi, zj, zk, zl, zm, zn, zo, zp, zq, zr, zt, zu, zw, zx, zy, zz, cE, jA, jB, hap, killE, deadOf, rwE, cD, cO, jC, jD, jE, jF, jG, jH, jI, jJ, jK, jL, jM, jN, jO, jP, jQ, jR, jS, jT, jU, jV, jW, jX, jY, hP, hk, res56, kp56, tC2, tC1, tC0V, rowCount, rowLKey, rowLSec, rowNeedV, rowBad, rowSecs, rowParseV, lnC, hoff, Int.toNat_zero, Int.toNat_one, Nat.mul_one, Nat.zero_mul, Nat.add_zero, Int.le_refl, Nat.reduceMul, lb1, lb2, lb3, lb4, u8b, UInt8.reduceToNat, c1])
    exact mp_none hC Nat.zero_lt_one rfl hres56 (r := { Rq.zero with kind := 4, quiet := q }) (more := false) (used := 0) (by simp [plainR, hoff]) rfl (fun ρ => rfl) rfl
  · have c1 : (decide ((1 : Int) ≤ (n : Int)) && decide ((n : Int) ≤ 1)) = false := by
      rw [Bool.and_eq_false_iff]; simp only [decide_eq_false_iff_not]; omega
    (refine VT_ok hctr (rs := res56) true 300 _ _ _ ?_; simp (maxSteps := 1000000) only [VT, jf, jg, jZ, ja, jd, je, VC, qA, qB, qC, qD, qE, qF, qG, qH, qI, qJ, qK, qL, qM, qN, qO, qP, qQ, qR, qS, qT, qU, qV, qW, qX, qY, qZ, qe, qf, qg, qh, qj, qk, ql, qm, qn, qo, qp, qq, q0t, qu, qv, ev, qw, qy, qz, zA, zB, zC, zD, zE, zF, zG, zH, zI, zJ, TE.sv, zK, zL, zM, ↓reduceIte, reduceCtorEq, Value.oneCell', Nat.reduceEqDiff, Nat.reduceAdd, Nat.reduceLT, Nat.reduceBEq, Nat.reduceSub, Nat.reduceLeDiff, zP, zQ, zR, zS, zT, zU, zV, zW, zX, zY, zZ, za, zb, zc, zd, ze, zf, zg, zh, zi, zj, zk, zl, zm, zn, zo, zp, zq, zr, zt, zu, zw, zx, zy, zz, cE, jA, jB, hap, killE, deadOf, rwE, cD, cO, jC, jD, jE, jF, jG, jH, jI, jJ, jK, jL, jM, jN, jO, jP, jQ, jR, jS, jT, jU, jV, jW, jX, jY, hP, hk, res56, kp56, tC2, tC1, tC0V, rowCount, rowLKey, rowLSec, rowNeedV, rowBad, rowSecs, rowParseV, lnC, hoff, Int.toNat_zero, Int.toNat_one, Nat.mul_one, Nat.zero_mul, Nat.add_zero, Int.le_refl, Nat.reduceMul, lb1, lb2, lb3, lb4, u8b, UInt8.reduceToNat, hnn, c1])
    exact Run_count_no hC hP hE rfl rfl (name := [118, 101, 114, 98, 111, 115, 105, 116, 121]) (behind := behind) (quiet := q) rfl (by omega) (mp_fault hC Nat.zero_lt_one rfl (f := f_unknown) (by simp [plainR, hoff, hnn, hc]) rfl)
theorem plain_version {w : World} {g : Nat} {a : Option Addr} {c : Nat} {ws : List (List UInt8)} {behind : List UInt8} (h : Ln w g [118, 101, 114, 115, 105, 111, 110] a ws.length c ws behind 0 false) (hn : ws.length ≤ 100000) (hl : ∀ x ∈ ws, x.length ≤ 100000) (hE0 : EnvG g w) :
    Calls Tryz.prog 56 #[.pointer (some ⟨g, 0, none⟩)] w (MP F1 g w (plainR [118, 101, 114, 115, 105, 111, 110] ws)) := by
  obtain ⟨w1, q, hoff⟩ : ∃ w1 q, offF ws = (w1, q) := ⟨_, _, rfl⟩
  have hpre := off_len ws
  rw [hoff] at hpre
  simp only at hpre
  have hl1 : ∀ x ∈ w1, x.length ≤ 9223372036854775807 := fun x hx => by rw [hpre] at hx; have := hl x (List.mem_of_mem_take hx); omega
  obtain ⟨n, hnn⟩ : ∃ n, w1.length = n := ⟨_, rfl⟩
  have hnc : n ≤ 100000 := by have := congrArg List.length hpre; rw [List.length_take] at this; omega
  refine calls_of_Run Tryz.func56 rfl kp56 (S := One g) (ρ := fun _ => reOfV g) [.c (.p 0 0)] Tryz.ntmps56 (ln_at h.blk true (One g) (fun _ => rfl)) (by simp [SV.wf, SC.wf]) (by simp) ?_
  intro C hC hP hk
  have hLW : LW C g w := lw_of hC Nat.zero_lt_one rfl
  have hE : EnvCV C := hE0.C hLW.S hLW.w0
  have hW0 : ∀ w', Upd C.S C.w0 w' → RawSV w' g a ws := fun w' hu => by rw [hLW.S, hLW.w0] at hu; exact h.raw.upd hu
  have hW : ∀ w', Upd C.S C.w0 w' → RawSV w' g a w1 := fun w' hu => (hW0 w' hu).pre hpre
  have hr : ∀ (k : Nat) x, w1[k]? = some x → ∃ b o, a = some ⟨b, o, none⟩ ∧ C.rd b (o + k) 1 = some [.s x] := fun k x hx => (h.raw.pre hpre).rd (D := C) (by rw [hLW.S]; exact fun k hk => hk) hLW.w0 hx
  have hctr := tC2_ok hP hE hW hl1
  obtain ⟨m, hm⟩ : ∃ m, ws.length = m := ⟨_, rfl⟩
  by_cases hc : m = 0
  · obtain rfl : ws = [] := List.eq_nil_of_length_eq_zero (hm.trans hc)
    have c1 : (decide ((0 : Int) ≤ ((0 : Nat) : Int)) && decide (((0 : Nat) : Int) ≤ 0)) = true := rfl
    (refine VT_ok hctr (rs := res56) true 300 _ _ _ ?_; simp (maxSteps := 1000000) only [VT, jf, jg, jZ, ja, jd, je, VC, qA, qB, qC, qD, qE, qF, qG, qH, qI, qJ, qK, qL, qM, qN, qO, qP, qQ, qR, qS, qT, qU, qV, qW, qX, qY, qZ, qe, qf, qg, qh, qj, qk, ql, qm, qn, qo, qp, qq, q0t, qu, qv, ev, qw, qy, qz, zA, zB, zC, zD, zE, zF, zG, zH, zI, zJ, TE.sv, zK, zL, zM, ↓reduceIte, reduceCtorEq, Value.oneCell', Nat.reduceEqDiff, Nat.reduceAdd, Nat.reduceLT, Nat.reduceBEq, Nat.reduceSub, Nat.reduceLeDiff, zP, zQ, zR, zS, zT, zU, zV, zW, zX, zY, zZ, za, zb, zc, zd, ze, zf, zg, zh, zi, zj, zk, zl, zm, zn, zo, zp, zq, zr, zt, zu, zw, zx, zy, zz, cE, jA, jB, hap, killE, deadOf, rwE, cD, cO, jC, jD, jE, jF, jG, jH, jI, jJ, jK, jL, jM, jN, jO, jP, jQ, jR, jS, jT, jU, jV, jW, jX, jY, hP, hk, res56, kp56, tC2, tC1, tC0V, rowCount, rowLKey, rowLSec, rowNeedV, rowBad, rowSecs, rowParseV, lnC, hoff, Int.toNat_zero, Int.toNat_one, Nat.mul_one, Nat.zero_mul, Nat.add_zero, Int.le_refl, Nat.reduceMul, lb1, lb2, lb3, lb4, u8b, UInt8.reduceToNat, c1])
    exact mp_none hC Nat.zero_lt_one rfl hres56 (r := { Rq.zero with kind := 3 }) (more := false) (used := 0) (by simp [plainR, hoff]) rfl (fun ρ => rfl) rfl
  · have c1 : (decide ((0 : Int) ≤ (m : Int)) && decide ((m : Int) ≤ 0)) = false := by
      rw [Bool.and_eq_false_iff]; simp only [decide_eq_false_iff_not]; omega
    have hne : ¬ ws = [] := fun e => hc (by rw [← hm, e]; rfl)
    (refine VT_ok hctr (rs := res56) true 300 _ _ _ ?_; simp (maxSteps := 1000000) only [VT, jf, jg, jZ, ja, jd, je, VC, qA, qB, qC, qD, qE, qF, qG, qH, qI, qJ, qK, qL, qM, qN, qO, qP, qQ, qR, qS, qT, qU, qV, qW, qX, qY, qZ, qe, qf, qg, qh, qj, qk, ql, qm, qn, qo, qp, qq, q0t, qu, qv, ev, qw, qy, qz, zA, zB, zC, zD, zE, zF, zG, zH, zI, zJ, TE.sv, zK, zL, zM, ↓reduceIte, reduceCtorEq, Value.oneCell', Nat.reduceEqDiff, Nat.reduceAdd, Nat.reduceLT, Nat.reduceBEq, Nat.reduceSub, Nat.reduceLeDiff, zP, zQ, zR, zS, zT, zU, zV, zW, zX, zY, zZ, za, zb, zc, zd, ze, zf, zg, zh, zi, zj, zk, zl, zm, zn, zo, zp, zq, zr, zt, zu, zw, zx, zy, zz, cE, jA, jB, hap, killE, deadOf, rwE, cD, cO, jC, jD, jE, jF, jG, jH, jI, jJ, jK, jL, jM, jN, jO, jP, jQ, jR, jS, jT, jU, jV, jW, jX, jY, hP, hk, res56, kp56, tC2, tC1, tC0V, rowCount, rowLKey, rowLSec, rowNeedV, rowBad, rowSecs, rowParseV, lnC, hoff, Int.toNat_zero, Int.toNat_one, Nat.mul_one, Nat.zero_mul, Nat.add_zero, Int.le_refl, Nat.reduceMul, lb1, lb2, lb3, lb4, u8b, UInt8.reduceToNat, hm, c1])
    exact Run_count_no hC hP hE rfl rfl (name := [118, 101, 114, 115, 105, 111, 110]) (behind := behind) (quiet := false) rfl (by omega) (mp_fault hC Nat.zero_lt_one rfl (f := f_unknown) (by simp [plainR, hne]) rfl)
theorem plain_quit {w : World} {g : Nat} {a : Option Addr} {c : Nat} {ws : List (List UInt8)} {behind : List UInt8} (h : Ln w g [113, 117, 105, 116] a ws.length c ws behind 0 false) (hn : ws.length ≤ 100000) (hl : ∀ x ∈ ws, x.length ≤ 100000) (hE0 : EnvG g w) :
    Calls Tryz.prog 56 #[.pointer (some ⟨g, 0, none⟩)] w (MP F1 g w (plainR [113, 117, 105, 116] ws)) := by
  obtain ⟨w1, q, hoff⟩ : ∃ w1 q, offF ws = (w1, q) := ⟨_, _, rfl⟩
  have hpre := off_len ws
  rw [hoff] at hpre
  simp only at hpre
  have hl1 : ∀ x ∈ w1, x.length ≤ 9223372036854775807 := fun x hx => by rw [hpre] at hx; have := hl x (List.mem_of_mem_take hx); omega
  obtain ⟨n, hnn⟩ : ∃ n, w1.length = n := ⟨_, rfl⟩
  have hnc : n ≤ 100000 := by have := congrArg List.length hpre; rw [List.length_take] at this; omega
  refine calls_of_Run Tryz.func56 rfl kp56 (S := One g) (ρ := fun _ => reOfV g) [.c (.p 0 0)] Tryz.ntmps56 (ln_at h.blk true (One g) (fun _ => rfl)) (by simp [SV.wf, SC.wf]) (by simp) ?_
  intro C hC hP hk
  have hLW : LW C g w := lw_of hC Nat.zero_lt_one rfl
  have hE : EnvCV C := hE0.C hLW.S hLW.w0
  have hW0 : ∀ w', Upd C.S C.w0 w' → RawSV w' g a ws := fun w' hu => by rw [hLW.S, hLW.w0] at hu; exact h.raw.upd hu
  have hW : ∀ w', Upd C.S C.w0 w' → RawSV w' g a w1 := fun w' hu => (hW0 w' hu).pre hpre
  have hr : ∀ (k : Nat) x, w1[k]? = some x → ∃ b o, a = some ⟨b, o, none⟩ ∧ C.rd b (o + k) 1 = some [.s x] := fun k x hx => (h.raw.pre hpre).rd (D := C) (by rw [hLW.S]; exact fun k hk => hk) hLW.w0 hx
  have hctr := tC2_ok hP hE hW hl1
  obtain ⟨m, hm⟩ : ∃ m, ws.length = m := ⟨_, rfl⟩
  by_cases hc : m = 0
  · obtain rfl : ws = [] := List.eq_nil_of_length_eq_zero (hm.trans hc)
    have c1 : (decide ((0 : Int) ≤ ((0 : Nat) : Int)) && decide (((0 : Nat) : Int) ≤ 0)) = true := rfl
    (refine VT_ok hctr (rs := res56) true 300 _ _ _ ?_; simp (maxSteps := 1000000) only [VT, jf, jg, jZ, ja, jd, je, VC, qA, qB, qC, qD, qE, qF, qG, qH, qI, qJ, qK, qL, qM, qN, qO, qP, qQ, qR, qS, qT, qU, qV, qW, qX, qY, qZ, qe, qf, qg, qh, qj, qk, ql, qm, qn, qo, qp, qq, q0t, qu, qv, ev, qw, qy, qz, zA, zB, zC, zD, zE, zF, zG, zH, zI, zJ, TE.sv, zK, zL, zM, ↓reduceIte, reduceCtorEq, Value.oneCell', Nat.reduceEqDiff, Nat.reduceAdd, Nat.reduceLT, Nat.reduceBEq, Nat.reduceSub, Nat.reduceLeDiff, zP, zQ, zR, zS, zT, zU, zV, zW, zX, zY, zZ, za, zb, zc, zd, ze, zf, zg, zh, zi, zj, zk, zl, zm, zn, zo, zp, zq, zr, zt, zu, zw, zx, zy, zz, cE, jA, jB, hap, killE, deadOf, rwE, cD, cO, jC, jD, jE, jF, jG, jH, jI, jJ, jK, jL, jM, jN, jO, jP, jQ, jR, jS, jT, jU, jV, jW, jX, jY, hP, hk, res56, kp56, tC2, tC1, tC0V, rowCount, rowLKey, rowLSec, rowNeedV, rowBad, rowSecs, rowParseV, lnC, hoff, Int.toNat_zero, Int.toNat_one, Nat.mul_one, Nat.zero_mul, Nat.add_zero, Int.le_refl, Nat.reduceMul, lb1, lb2, lb3, lb4, u8b, UInt8.reduceToNat, c1])
    exact mp_none hC Nat.zero_lt_one rfl hres56 (r := { Rq.zero with kind := 6, close := true }) (more := false) (used := 0) (by simp [plainR, hoff]) rfl (fun ρ => rfl) rfl
  · have c1 : (decide ((0 : Int) ≤ (m : Int)) && decide ((m : Int) ≤ 0)) = false := by
      rw [Bool.and_eq_false_iff]; simp only [decide_eq_false_iff_not]; omega
    have hne : ¬ ws = [] := fun e => hc (by rw [← hm, e]; rfl)
    (refine VT_ok hctr (rs := res56) true 300 _ _ _ ?_; simp (maxSteps := 1000000) only [VT, jf, jg, jZ, ja, jd, je, VC, qA, qB, qC, qD, qE, qF, qG, qH, qI, qJ, qK, qL, qM, qN, qO, qP, qQ, qR, qS, qT, qU, qV, qW, qX, qY, qZ, qe, qf, qg, qh, qj, qk, ql, qm, qn, qo, qp, qq, q0t, qu, qv, ev, qw, qy, qz, zA, zB, zC, zD, zE, zF, zG, zH, zI, zJ, TE.sv, zK, zL, zM, ↓reduceIte, reduceCtorEq, Value.oneCell', Nat.reduceEqDiff, Nat.reduceAdd, Nat.reduceLT, Nat.reduceBEq, Nat.reduceSub, Nat.reduceLeDiff, zP, zQ, zR, zS, zT, zU, zV, zW, zX, zY, zZ, za, zb, zc, zd, ze, zf, zg, zh, zi, zj, zk, zl, zm, zn, zo, zp, zq, zr, zt, zu, zw, zx, zy, zz, cE, jA, jB, hap, killE, deadOf, rwE, cD, cO, jC, jD, jE, jF, jG, jH, jI, jJ, jK, jL, jM, jN, jO, jP, jQ, jR, jS, jT, jU, jV, jW, jX, jY, hP, hk, res56, kp56, tC2, tC1, tC0V, rowCount, rowLKey, rowLSec, rowNeedV, rowBad, rowSecs, rowParseV, lnC, hoff, Int.toNat_zero, Int.toNat_one, Nat.mul_one, Nat.zero_mul, Nat.add_zero, Int.le_refl, Nat.reduceMul, lb1, lb2, lb3, lb4, u8b, UInt8.reduceToNat, hm, c1])
    exact Run_count_no hC hP hE rfl rfl (name := [113, 117, 105, 116]) (behind := behind) (quiet := false) rfl (by omega) (mp_fault hC Nat.zero_lt_one rfl (f := f_unknown) (by simp [plainR, hne]) rfl)
theorem plain_stats {w : World} {g : Nat} {a : Option Addr} {c : Nat} {ws : List (List UInt8)} {behind : List UInt8} (h : Ln w g [115, 116, 97, 116, 115] a ws.length c ws behind 0 false) (hn : ws.length ≤ 100000) (hl : ∀ x ∈ ws, x.length ≤ 100000) (hE0 : EnvG g w) :
    Calls Tryz.prog 56 #[.pointer (some ⟨g, 0, none⟩)] w (MP F1 g w (plainR [115, 116, 97, 116, 115] ws)) := by
  obtain ⟨w1, q, hoff⟩ : ∃ w1 q, offF ws = (w1, q) := ⟨_, _, rfl⟩
  have hpre := off_len ws
  rw [hoff] at hpre
  simp only at hpre
  have hl1 : ∀ x ∈ w1, x.length ≤ 9223372036854775807 := fun x hx => by rw [hpre] at hx; have := hl x (List.mem_of_mem_take hx); omega
  obtain ⟨n, hnn⟩ : ∃ n, w1.length = n := ⟨_, rfl⟩
  have hnc : n ≤ 100000 := by have := congrArg List.length hpre; rw [List.length_take] at this; omega
  refine calls_of_Run Tryz.func56 rfl kp56 (S := One g) (ρ := fun _ => reOfV g) [.c (.p 0 0)] Tryz.ntmps56 (ln_at h.blk true (One g) (fun _ => rfl)) (by simp [SV.wf, SC.wf]) (by simp) ?_
  intro C hC hP hk
  have hLW : LW C g w := lw_of hC Nat.zero_lt_one rfl
  have hE : EnvCV C := hE0.C hLW.S hLW.w0
  have hW0 : ∀ w', Upd C.S C.w0 w' → RawSV w' g a ws := fun w' hu => by rw [hLW.S, hLW.w0] at hu; exact h.raw.upd hu
  have hW : ∀ w', Upd C.S C.w0 w' → RawSV w' g a w1 := fun w' hu => (hW0 w' hu).pre hpre
  have hr : ∀ (k : Nat) x, w1[k]? = some x → ∃ b o, a = some ⟨b, o, none⟩ ∧ C.rd b (o + k) 1 = some [.s x] := fun k x hx => (h.raw.pre hpre).rd (D := C) (by rw [hLW.S]; exact fun k hk => hk) hLW.w0 hx
  have hctr := tC3_ok hP hE hW0 (fun x hx => by have := hl x hx; omega)
  by_cases hc0 : ws = []
  · subst hc0
    have c1 : (decide ((0 : Int) ≤ ((0 : Nat) : Int)) && decide (((0 : Nat) : Int) ≤ 1)) = true := rfl
    have j1 : joinW [] = [] := rfl
    (refine VT_ok hctr (rs := res56) true 300 _ _ _ ?_; simp (maxSteps := 1000000) only [VT, jf, jg, jZ, ja, jd, je, VC, qA, qB, qC, qD, qE, qF, qG, qH, qI, qJ, qK, qL, qM, qN, qO, qP, qQ, qR, qS, qT, qU, qV, qW, qX, qY, qZ, qe, qf, qg, qh, qj, qk, ql, qm, qn, qo, qp, qq, q0t, qu, qv, ev, qw, qy, qz, zA, zB, zC, zD, zE, zF, zG, zH, zI, zJ, TE.sv, zK, zL, zM, ↓reduceIte, reduceCtorEq, Value.oneCell', Nat.reduceEqDiff, Nat.reduceAdd, Nat.reduceLT, Nat.reduceBEq, Nat.reduceSub, Nat.reduceLeDiff, zP, zQ, zR, zS, zT, zU, zV, zW, zX, zY, zZ, za, zb, zc, zd, ze, zf, zg, zh, zi, zj, zk, zl, zm, zn, zo, zp, zq, zr, zt, zu, zw, zx, zy, zz, cE, jA, jB, hap, killE, deadOf, rwE, cD, cO, jC, jD, jE, jF, jG, jH, jI, jJ, jK, jL, jM, jN, jO, jP, jQ, jR, jS, jT, jU, jV, jW, jX, jY, hP, hk, res56, kp56, tC2, tC1, tC0V, rowCount, rowLKey, rowLSec, rowNeedV, rowBad, rowSecs, rowParseV, lnC, hoff, Int.toNat_zero, Int.toNat_one, Nat.mul_one, Nat.zero_mul, Nat.add_zero, Int.le_refl, Nat.reduceMul, lb1, lb2, lb3, lb4, u8b, UInt8.reduceToNat, tC3, rowWJoin, c1, j1])
    exact mp_none hC Nat.zero_lt_one rfl hres56 (r := { Rq.zero with kind := 5 }) (more := false) (used := 0) (by simp [plainR, hoff, Rq.zero]) rfl (fun ρ => rfl) rfl
  by_cases hc1 : ws.length = 1
  · obtain ⟨x, rfl⟩ := one_of' hc1
    have c1 : (decide ((0 : Int) ≤ ((1 : Nat) : Int)) && decide (((1 : Nat) : Int) ≤ 1)) = true := rfl
    have j1 : joinW [x] = x := by simp [joinW, Lib.join]
    have lx := hl x (by simp)
    have hcp : 1 ≤ c := h.cap
    (refine VT_ok hctr (rs := res56) true 300 _ _ _ ?_; simp (maxSteps := 1000000) only [VT, jf, jg, jZ, ja, jd, je, VC, qA, qB, qC, qD, qE, qF, qG, qH, qI, qJ, qK, qL, qM, qN, qO, qP, qQ, qR, qS, qT, qU, qV, qW, qX, qY, qZ, qe, qf, qg, qh, qj, qk, ql, qm, qn, qo, qp, qq, q0t, qu, qv, ev, qw, qy, qz, zA, zB, zC, zD, zE, zF, zG, zH, zI, zJ, TE.sv, zK, zL, zM, ↓reduceIte, reduceCtorEq, Value.oneCell', Nat.reduceEqDiff, Nat.reduceAdd, Nat.reduceLT, Nat.reduceBEq, Nat.reduceSub, Nat.reduceLeDiff, zP, zQ, zR, zS, zT, zU, zV, zW, zX, zY, zZ, za, zb, zc, zd, ze, zf, zg, zh, zi, zj, zk, zl, zm, zn, zo, zp, zq, zr, zt, zu, zw, zx, zy, zz, cE, jA, jB, hap, killE, deadOf, rwE, cD, cO, jC, jD, jE, jF, jG, jH, jI, jJ, jK, jL, jM, jN, jO, jP, jQ, jR, jS, jT, jU, jV, jW, jX, jY, hP, hk, res56, kp56, tC2, tC1, tC0V, rowCount, rowLKey, rowLSec, rowNeedV, rowBad, rowSecs, rowParseV, lnC, hoff, Int.toNat_zero, Int.toNat_one, Nat.mul_one, Nat.zero_mul, Nat.add_zero, Int.le_refl, Nat.reduceMul, lb1, lb2, lb3, lb4, u8b, UInt8.reduceToNat, tC3, rowWJoin, c1, j1])
    refine ⟨⟨hcp, by omega⟩, ?_⟩
    exact mp_none hC Nat.zero_lt_one rfl hres56 (r := { Rq.zero with kind := 5, arg := x }) (more := false) (used := 0) (by simp [plainR, hoff, Rq.zero]) rfl (fun ρ => rfl) rfl
  · have hm0 : ws.length ≠ 0 := fun e => hc0 (List.eq_nil_of_length_eq_zero e)
    obtain ⟨m, hm⟩ : ∃ m, ws.length = m := ⟨_, rfl⟩
    have c1 : (decide ((0 : Int) ≤ (m : Int)) && decide ((m : Int) ≤ 1)) = false := by
      rw [Bool.and_eq_false_iff]; simp only [decide_eq_false_iff_not]; omega
    (refine VT_ok hctr (rs := res56) true 300 _ _ _ ?_; simp (maxSteps := 1000000) only [VT, jf, jg, jZ, ja, jd, je, VC, qA, qB, qC, qD, qE, qF, qG, qH, qI, qJ, qK, qL, qM, qN, qO, qP, qQ, qR, qS, qT, qU, qV, qW, qX, qY, qZ, qe, qf, qg, qh, qj, qk, ql, qm, qn, qo, qp, qq, q0t, qu, qv, ev, qw, qy, qz, zA, zB, zC, zD, zE, zF, zG, zH, zI, zJ, TE.sv, zK, zL, zM, ↓reduceIte, reduceCtorEq, Value.oneCell', Nat.reduceEqDiff, Nat.reduceAdd, Nat.reduceLT, Nat.reduceBEq, Nat.reduceSub, Nat.reduceLeDiff, zP, zQ, zR, zS, zT, zU, zV, zW, zX, zY, zZ, za, zb, zc, zd, ze, zf, zg, zh, zi, zj, zk, zl, zm, zn, zo, zp, zq, zr, zt, zu, zw, zx, zy, zz, cE, jA, jB, hap, killE, deadOf, rwE, cD, cO, jC, jD, jE, jF, jG, jH, jI, jJ, jK, jL, jM, jN, jO, jP, jQ, jR, jS, jT, jU, jV, jW, jX, jY, hP, hk, res56, kp56, tC2, tC1, tC0V, rowCount, rowLKey, rowLSec, rowNeedV, rowBad, rowSecs, rowParseV, lnC, hoff, Int.toNat_zero, Int.toNat_one, Nat.mul_one, Nat.zero_mul, Nat.add_zero, Int.le_refl, Nat.reduceMul, lb1, lb2, lb3, lb4, u8b, UInt8.reduceToNat, tC3, rowWJoin, hm, c1])
    have hm1 : 1 < ws.length := by omega
    exact Run_count_no hC hP hE rfl rfl (name := [115, 116, 97, 116, 115]) (behind := behind) (quiet := false) rfl (by omega) (mp_fault hC Nat.zero_lt_one rfl (f := f_unknown) (by simp [plainR, hoff, hm1]) rfl)
theorem plain_other {name : List UInt8} (h0 : name ≠ [105, 110, 99, 114]) (h1 : name ≠ [100, 101, 99, 114]) (h2 : name ≠ [116, 111, 117, 99, 104]) (h3 : name ≠ [100, 101, 108, 101, 116, 101]) (h4 : name ≠ [102, 108, 117, 115, 104, 95, 97, 108, 108]) (h5 : name ≠ [118, 101, 114, 98, 111, 115, 105, 116, 121]) (h6 : name ≠ [118, 101, 114, 115, 105, 111, 110]) (h7 : name ≠ [113, 117, 105, 116]) (h8 : name ≠ [115, 116, 97, 116, 115]) {w : World} {g : Nat} {a : Option Addr} {c : Nat} {ws : List (List UInt8)} {behind : List UInt8} (h : Ln w g name a ws.length c ws behind 0 false) (hn : ws.length ≤ 100000) (hl : ∀ x ∈ ws, x.length ≤ 100000) (hE0 : EnvG g w) :
    Calls Tryz.prog 56 #[.pointer (some ⟨g, 0, none⟩)] w (MP F1 g w (plainR name ws)) := by
  obtain ⟨w1, q, hoff⟩ : ∃ w1 q, offF ws = (w1, q) := ⟨_, _, rfl⟩
  have hpre := off_len ws
  rw [hoff] at hpre
  simp only at hpre
  have hl1 : ∀ x ∈ w1, x.length ≤ 9223372036854775807 := fun x hx => by rw [hpre] at hx; have := hl x (List.mem_of_mem_take hx); omega
  obtain ⟨n, hnn⟩ : ∃ n, w1.length = n := ⟨_, rfl⟩
  have hnc : n ≤ 100000 := by have := congrArg List.length hpre; rw [List.length_take] at this; omega
  refine calls_of_Run Tryz.func56 rfl kp56 (S := One g) (ρ := fun _ => reOfV g) [.c (.p 0 0)] Tryz.ntmps56 (ln_at h.blk true (One g) (fun _ => rfl)) (by simp [SV.wf, SC.wf]) (by simp) ?_
  intro C hC hP hk
  have hLW : LW C g w := lw_of hC Nat.zero_lt_one rfl
  have hE : EnvCV C := hE0.C hLW.S hLW.w0
  have hW0 : ∀ w', Upd C.S C.w0 w' → RawSV w' g a ws := fun w' hu => by rw [hLW.S, hLW.w0] at hu; exact h.raw.upd hu
  have hW : ∀ w', Upd C.S C.w0 w' → RawSV w' g a w1 := fun w' hu => (hW0 w' hu).pre hpre
  have hr : ∀ (k : Nat) x, w1[k]? = some x → ∃ b o, a = some ⟨b, o, none⟩ ∧ C.rd b (o + k) 1 = some [.s x] := fun k x hx => (h.raw.pre hpre).rd (D := C) (by rw [hLW.S]; exact fun k hk => hk) hLW.w0 hx
  have hctr := tC2_ok hP hE hW hl1
  have b0 : (name == [105, 110, 99, 114]) = false := by simpa using h0
  have b1 : (name == [100, 101, 99, 114]) = false := by simpa using h1
  have b2 : (name == [116, 111, 117, 99, 104]) = false := by simpa using h2
  have b3 : (name == [100, 101, 108, 101, 116, 101]) = false := by simpa using h3
  have b4 : (name == [102, 108, 117, 115, 104, 95, 97, 108, 108]) = false := by simpa using h4
  have b5 : (name == [118, 101, 114, 98, 111, 115, 105, 116, 121]) = false := by simpa using h5
  have b6 : (name == [118, 101, 114, 115, 105, 111, 110]) = false := by simpa using h6
  have b7 : (name == [113, 117, 105, 116]) = false := by simpa using h7
  have b8 : (name == [115, 116, 97, 116, 115]) = false := by simpa using h8
  (refine VT_ok hctr (rs := res56) true 300 _ _ _ ?_; simp (maxSteps := 1000000) only [VT, jf, jg, jZ, ja, jd, je, VC, qA, qB, qC, qD, qE, qF, qG, qH, qI, qJ, qK, qL, qM, qN, qO, qP, qQ, qR, qS, qT, qU, qV, qW, qX, qY, qZ, qe, qf, qg, qh, qj, qk, ql, qm, qn, qo, qp, qq, q0t, qu, qv, ev, qw, qy, qz, zA, zB, zC, zD, zE, zF, zG, zH, zI, zJ, TE.sv, zK, zL, zM, ↓reduceIte, reduceCtorEq, Value.oneCell', Nat.reduceEqDiff, Nat.reduceAdd, Nat.reduceLT, Nat.reduceBEq, Nat.reduceSub, Nat.reduceLeDiff, zP, zQ, zR, zS, zT, zU, zV, zW, zX, zY, zZ, za, zb, zc, zd, ze, zf, zg, zh, zi, zj, zk, zl, zm, zn, zo, zp, zq, zr, zt, zu, zw, zx, zy, zz, cE, jA, jB, hap, killE, deadOf, rwE, cD, cO, jC, jD, jE, jF, jG, jH, jI, jJ, jK, jL, jM, jN, jO, jP, jQ, jR, jS, jT, jU, jV, jW, jX, jY, hP, hk, res56, kp56, tC2, tC1, tC0V, rowCount, rowLKey, rowLSec, rowNeedV, rowBad, rowSecs, rowParseV, lnC, hoff, Int.toNat_zero, Int.toNat_one, Nat.mul_one, Nat.zero_mul, Nat.add_zero, Int.le_refl, Nat.reduceMul, lb1, lb2, lb3, lb4, u8b, UInt8.reduceToNat, b0, b1, b2, b3, b4, b5, b6, b7, b8])
  exact Run_panic rfl (Pan_of hC fun ρ w' hw hn => mp_fault hC Nat.zero_lt_one rfl (f := f_unknown) (by simp [plainR, h0, h1, h2, h3, h4, h5, h6, h7, h8]) (name := name) (behind := behind) (quiet := false) rfl ρ w' hw)
theorem plain_w {name : List UInt8} {w : World} {g : Nat} {a : Option Addr} {c : Nat} {ws : List (List UInt8)} {behind : List UInt8} (h : Ln w g name a ws.length c ws behind 0 false) (hn : ws.length ≤ 100000) (hl : ∀ x ∈ ws, x.length ≤ 100000) (hE0 : EnvG g w) :
    Calls Tryz.prog 56 #[.pointer (some ⟨g, 0, none⟩)] w (MP F1 g w (plainR name ws)) := by
  by_cases h0 : name = [105, 110, 99, 114]
  · subst h0; exact plain_incr h hn hl hE0
  by_cases h1 : name = [100, 101, 99, 114]
  · subst h1; exact plain_decr h hn hl hE0
  by_cases h2 : name = [116, 111, 117, 99, 104]
  · subst h2; exact plain_touch h hn hl hE0
  by_cases h3 : name = [100, 101, 108, 101, 116, 101]
  · subst h3; exact plain_delete h hn hl hE0
  by_cases h4 : name = [102, 108, 117, 115, 104, 95, 97, 108, 108]
  · subst h4; exact plain_flush_all h hn hl hE0
  by_cases h5 : name = [118, 101, 114, 98, 111, 115, 105, 116, 121]
  · subst h5; exact plain_verbosity h hn hl hE0
  by_cases h6 : name = [118, 101, 114, 115, 105, 111, 110]
  · subst h6; exact plain_version h hn hl hE0
  by_cases h7 : name = [113, 117, 105, 116]
  · subst h7; exact plain_quit h hn hl hE0
  by_cases h8 : name = [115, 116, 97, 116, 115]
  · subst h8; exact plain_stats h hn hl hE0
  exact plain_other h0 h1 h2 h3 h4 h5 h6 h7 h8 h hn hl hE0
end Go.Proofs.YtehfcboiimdkbaaGreatDoor
