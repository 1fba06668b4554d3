/- ConnWaits, walked. Printed by gen_cwaits.py. -/
import Derived.Test.YtehfcboiimdkbaaGreatDoorCClaw
import Derived.Test.YtehfcboiimdkbaaGreatDoorCSxMake
namespace Go.Proofs.YtehfcboiimdkbaaGreatDoor
set_option linter.unusedSimpArgs false
set_option linter.unusedVariables false
set_option linter.unusedSimpArgs false
set_option linter.unusedVariables false
set_option maxHeartbeats 8000000
open Go.RowKit
set_option maxRecDepth 100000
theorem infoB : (Tryz.prog.info? 5).map (fun i => (i.zero, i.size, i.bytes)) = some (some (.int .u8 0), 1, 1) := by kernel_rfl
def zs (n : Nat) : List UInt8 := List.replicate n 0
theorem zs_len (n : Nat) : (zs n).length = n := List.length_replicate
def mn : List UInt8 := [109, 110, 10]
def cW (n : Nat) : Cn := ⟨mn, zs n, 0, false⟩
theorem mn_next : cParse mn = (gB, 3) := by kernel_rfl
theorem feed_mn (n : Nat) : cnFeed ⟨[], zs n, 0, false⟩ mn = (cW n, 3) := by
  unfold cnFeed cW mn; simp
theorem next_mn {o : List UInt8} (h : o.length < 100000) : cnNext ⟨mn, o, 0, false⟩ = (⟨[], o, 0, false⟩, gB, true) := by
  unfold cnNext
  rw [if_neg (by simp; omega)]
  simp only [mn_next]
  have h1 : gB.kind ≠ 0 := by rw [sn9.2]; decide
  have h2 : gB.close = false := by decide +kernel
  have h3 : gB.skip = 0 := by decide +kernel
  rw [if_neg h1, h2]
  simp [cnPass, h3, mn]
theorem next_full {o : List UInt8} (h : 100000 ≤ o.length) : cnNext ⟨mn, o, 0, false⟩ = (⟨mn, o, 0, false⟩, Gq.zero, false) := by
  unfold cnNext; rw [if_pos (.inr h)]
theorem waits_walk (x y : Int) (xn : -9223372036854775808 ≤ x) (xm : x ≤ 9223372036854775807) (yn : -9223372036854775808 ≤ y) (ym : y ≤ 9223372036854775807) (w : World) (hE0 : EnvT w) :
    Calls Tryz.prog 4 #[.int .i64 x, .int .i64 y] w fun e w' => e = .returned (.bool true) ∧ Below w.heap.size w w' := by
  refine calls_of_Run Tryz.func4 rfl kp4 (S := Non) (ρ := fun _ => reOf 0) (en := []) [.c (.i .i64 x), .c (.i .i64 y)] Tryz.ntmps4 (At.nil _ _ _) (by simp [SV.wf, SC.wf]) (by simp) ?_
  intro C hC hP hk
  have hE : ∀ w', Upd C.S C.w0 w' → EnvT w' := fun w' hu => by rw [hC] at hu; exact hE0.below hu.to_below
  have hctr := clC_ok hP hE
  have hn0 : C.n0 = 0 := by rw [hC]; rfl
  have fin : ∀ en, Fin C res4 (.c (.b true)) en := fun en => Fin_ro (v := .c (.b true)) hC hres4 rfl trivial
  (refine VT_ok hctr (rs := res4) true 300 _ _ _ ?_; simp (maxSteps := 1000000) only [VT, jf, jg, jZ, ja, jd, je, VC, qA, qB, qC, qD, qE, qF, qG, qH, qI, qJ, qK, qL, qM, qN, qO, qP, qQ, qR, qS, qT, qU, qV, qW, qX, qY, qZ, qe, qf, qg, qh, qj, qk, ql, qm, qn, qo, qp, qq, q0t, qu, qv, ev, qw, qy, qz, zA, zB, zC, zD, zE, zF, zG, zH, zI, zJ, TE.sv, zK, zL, zM, ↓reduceIte, reduceCtorEq, Value.oneCell', Nat.reduceEqDiff, Nat.reduceAdd, Nat.reduceLT, Nat.reduceBEq, Nat.reduceSub, Nat.reduceLeDiff, zP, zQ, zR, zS, zT, zU, zV, zW, zX, zY, zZ, za, zb, zc, zd, ze, zf, zg, zh, zi, zj, zk, zl, zm, zn, zo, zp, zq, zr, zt, zu, zw, zx, zy, zz, cE, jA, jB, hap, killE, deadOf, rwE, cD, cO, jC, jD, jE, jF, jG, jH, jI, jJ, jK, jL, jM, jN, jO, jP, jQ, jR, jS, jT, jU, jV, jW, jX, jY, hP, hk, res4, kp4, clC, gqZ, gqS, Int.toNat_natCast, Int.le_refl, beq_self_eq_true, bne_self_eq_false, Bool.not_false, Bool.not_true])
  refine Run_new hP (by rw [hn0]; exact Nat.zero_le _) rfl (by simp) ?_
  obtain ⟨u, hu⟩ : ∃ u, (if x < 0 then -(x + 1) else x) = u := ⟨_, rfl⟩
  obtain ⟨v, hv⟩ : ∃ v, (if y < 0 then -(y + 1) else y) = v := ⟨_, rfl⟩
  have u0 : 0 ≤ u := by rw [← hu]; split <;> omega
  have v0 : 0 ≤ v := by rw [← hv]; split <;> omega
  obtain ⟨W, hW⟩ : ∃ W : Nat, u % 120000 = (W : Int) := ⟨(u % 120000).toNat, by omega⟩
  obtain ⟨V, hV⟩ : ∃ V : Nat, v % 30000 = (V : Int) := ⟨(v % 30000).toNat, by omega⟩
  have hWl : W < 120000 := by omega
  have hVl : V < 30000 := by omega
  have r1 : u.tmod 120000 = (W : Int) := by rw [Int.tmod_eq_emod_of_nonneg u0]; exact hW
  have r2 : v.tmod 30000 = (V : Int) := by rw [Int.tmod_eq_emod_of_nonneg v0]; exact hV
  have r3 : IntKind.i64.wrap (W : Int) = (W : Int) := IntWalk.i64_in _ (by omega)
  have r4 : IntKind.i64.wrap (V : Int) = (V : Int) := IntWalk.i64_in _ (by omega)
  have ok0 : CnOk ⟨[], zs W, 0, false⟩ := ⟨Nat.zero_le _, by rw [zs_len]; omega, Int.le_refl _, by show (0 : Int) ≤ _; decide⟩
  have okW : CnOk (cW W) := ⟨by show 3 ≤ 70000; decide, by show (zs W).length ≤ _; rw [zs_len]; omega, Int.le_refl _, by show (0 : Int) ≤ _; decide⟩
  have hput : cnPut Cn.zero (zs W) = ⟨[], zs W, 0, false⟩ := rfl
  have hzl := zs_len W
  obtain ⟨i0, hi', hz0, hz1, hz2⟩ := info_parts infoB
  have hcx : ∃ B1 : Bool, decide (x < 0) = B1 ∧ ((B1 = true ∧ IntKind.i64.wrap (x + 1) = x + 1 ∧ IntKind.i64.wrap (0 - (x + 1)) = u) ∨ (B1 = false ∧ x = u)) := by
    by_cases h : x < 0
    · rw [if_pos h] at hu
      exact ⟨true, decide_eq_true h, .inl ⟨rfl, IntWalk.i64_in _ (by omega), by rw [IntWalk.i64_in _ (by omega)]; omega⟩⟩
    · rw [if_neg h] at hu
      exact ⟨false, decide_eq_false h, .inr ⟨rfl, hu⟩⟩
  have hcy : ∃ B1 : Bool, decide (y < 0) = B1 ∧ ((B1 = true ∧ IntKind.i64.wrap (y + 1) = y + 1 ∧ IntKind.i64.wrap (0 - (y + 1)) = v) ∨ (B1 = false ∧ y = v)) := by
    by_cases h : y < 0
    · rw [if_pos h] at hv
      exact ⟨true, decide_eq_true h, .inl ⟨rfl, IntWalk.i64_in _ (by omega), by rw [IntWalk.i64_in _ (by omega)]; omega⟩⟩
    · rw [if_neg h] at hv
      exact ⟨false, decide_eq_false h, .inr ⟨rfl, hv⟩⟩
  have g0 : decide ((0 : Int) ≤ 120000) = true := rfl
  (refine VT_ok hctr (rs := res4) true 15 _ _ _ ?_; simp (maxSteps := 1000000) only [VT, jf, jg, jZ, ja, jd, je, VC, qA, qB, qC, qD, qE, qF, qG, qH, qI, qJ, qK, qL, qM, qN, qO, qP, qQ, qR, qS, qT, qU, qV, qW, qX, qY, qZ, qe, qf, qg, qh, qj, qk, ql, qm, qn, qo, qp, qq, q0t, qu, qv, ev, qw, qy, qz, zA, zB, zC, zD, zE, zF, zG, zH, zI, zJ, TE.sv, zK, zL, zM, ↓reduceIte, reduceCtorEq, Value.oneCell', Nat.reduceEqDiff, Nat.reduceAdd, Nat.reduceLT, Nat.reduceBEq, Nat.reduceSub, Nat.reduceLeDiff, zP, zQ, zR, zS, zT, zU, zV, zW, zX, zY, zZ, za, zb, zc, zd, ze, zf, zg, zh, zi, zj, zk, zl, zm, zn, zo, zp, zq, zr, zt, zu, zw, zx, zy, zz, cE, jA, jB, hap, killE, deadOf, rwE, cD, cO, jC, jD, jE, jF, jG, jH, jI, jJ, jK, jL, jM, jN, jO, jP, jQ, jR, jS, jT, jU, jV, jW, jX, jY, hP, hk, res4, kp4, clC, gqZ, gqS, Int.toNat_natCast, Int.le_refl, beq_self_eq_true, bne_self_eq_false, Bool.not_false, Bool.not_true])
  refine ⟨ptr_und, ?_⟩
  refine Run_join (κ := Unit) (fun _ => [(6, .c (.p 0 0)), (5, .c (.b true)), (0, .c (.i .i64 u)), (1, .c (.i .i64 y))]) (fun _ => [cnE Cn.zero true]) ?_ ?_
  rotate_left
  · intro htail
    obtain ⟨B1, q1, ⟨rfl, a1, a2⟩ | ⟨rfl, a1⟩⟩ := hcx
    · (refine VT_ok hctr (rs := res4) true 12 _ _ _ ?_; simp (maxSteps := 1000000) only [VT, jf, jg, jZ, ja, jd, je, VC, qA, qB, qC, qD, qE, qF, qG, qH, qI, qJ, qK, qL, qM, qN, qO, qP, qQ, qR, qS, qT, qU, qV, qW, qX, qY, qZ, qe, qf, qg, qh, qj, qk, ql, qm, qn, qo, qp, qq, q0t, qu, qv, ev, qw, qy, qz, zA, zB, zC, zD, zE, zF, zG, zH, zI, zJ, TE.sv, zK, zL, zM, ↓reduceIte, reduceCtorEq, Value.oneCell', Nat.reduceEqDiff, Nat.reduceAdd, Nat.reduceLT, Nat.reduceBEq, Nat.reduceSub, Nat.reduceLeDiff, zP, zQ, zR, zS, zT, zU, zV, zW, zX, zY, zZ, za, zb, zc, zd, ze, zf, zg, zh, zi, zj, zk, zl, zm, zn, zo, zp, zq, zr, zt, zu, zw, zx, zy, zz, cE, jA, jB, hap, killE, deadOf, rwE, cD, cO, jC, jD, jE, jF, jG, jH, jI, jJ, jK, jL, jM, jN, jO, jP, jQ, jR, jS, jT, jU, jV, jW, jX, jY, hP, hk, res4, kp4, clC, gqZ, gqS, Int.toNat_natCast, Int.le_refl, beq_self_eq_true, bne_self_eq_false, Bool.not_false, Bool.not_true, q1, a1, a2])
      exact htail () _ (sub_mk ⟨rfl, rfl, rfl, rfl, trivial⟩)
    · subst a1
      (refine VT_ok hctr (rs := res4) true 7 _ _ _ ?_; simp (maxSteps := 1000000) only [VT, jf, jg, jZ, ja, jd, je, VC, qA, qB, qC, qD, qE, qF, qG, qH, qI, qJ, qK, qL, qM, qN, qO, qP, qQ, qR, qS, qT, qU, qV, qW, qX, qY, qZ, qe, qf, qg, qh, qj, qk, ql, qm, qn, qo, qp, qq, q0t, qu, qv, ev, qw, qy, qz, zA, zB, zC, zD, zE, zF, zG, zH, zI, zJ, TE.sv, zK, zL, zM, ↓reduceIte, reduceCtorEq, Value.oneCell', Nat.reduceEqDiff, Nat.reduceAdd, Nat.reduceLT, Nat.reduceBEq, Nat.reduceSub, Nat.reduceLeDiff, zP, zQ, zR, zS, zT, zU, zV, zW, zX, zY, zZ, za, zb, zc, zd, ze, zf, zg, zh, zi, zj, zk, zl, zm, zn, zo, zp, zq, zr, zt, zu, zw, zx, zy, zz, cE, jA, jB, hap, killE, deadOf, rwE, cD, cO, jC, jD, jE, jF, jG, jH, jI, jJ, jK, jL, jM, jN, jO, jP, jQ, jR, jS, jT, jU, jV, jW, jX, jY, hP, hk, res4, kp4, clC, gqZ, gqS, Int.toNat_natCast, Int.le_refl, beq_self_eq_true, bne_self_eq_false, Bool.not_false, Bool.not_true, q1])
      exact htail () _ (sub_mk ⟨rfl, rfl, rfl, rfl, trivial⟩)
  intro _
  show Run C _ 80 [(6, .c (.p 0 0)), (5, .c (.b true)), (0, .c (.i .i64 u)), (1, .c (.i .i64 y))] [cnE Cn.zero true]
  (refine VT_ok hctr (rs := res4) true 1 _ _ _ ?_; simp (maxSteps := 1000000) only [VT, jf, jg, jZ, ja, jd, je, VC, qA, qB, qC, qD, qE, qF, qG, qH, qI, qJ, qK, qL, qM, qN, qO, qP, qQ, qR, qS, qT, qU, qV, qW, qX, qY, qZ, qe, qf, qg, qh, qj, qk, ql, qm, qn, qo, qp, qq, q0t, qu, qv, ev, qw, qy, qz, zA, zB, zC, zD, zE, zF, zG, zH, zI, zJ, TE.sv, zK, zL, zM, ↓reduceIte, reduceCtorEq, Value.oneCell', Nat.reduceEqDiff, Nat.reduceAdd, Nat.reduceLT, Nat.reduceBEq, Nat.reduceSub, Nat.reduceLeDiff, zP, zQ, zR, zS, zT, zU, zV, zW, zX, zY, zZ, za, zb, zc, zd, ze, zf, zg, zh, zi, zj, zk, zl, zm, zn, zo, zp, zq, zr, zt, zu, zw, zx, zy, zz, cE, jA, jB, hap, killE, deadOf, rwE, cD, cO, jC, jD, jE, jF, jG, jH, jI, jJ, jK, jL, jM, jN, jO, jP, jQ, jR, jS, jT, jU, jV, jW, jX, jY, hP, hk, res4, kp4, clC, gqZ, gqS, Int.toNat_natCast, Int.le_refl, beq_self_eq_true, bne_self_eq_false, Bool.not_false, Bool.not_true])
  refine Run_join (κ := Unit) (fun _ => [(6, .c (.p 0 0)), (5, .c (.b true)), (0, .c (.i .i64 u)), (1, .c (.i .i64 v))]) (fun _ => [cnE Cn.zero true]) ?_ ?_
  rotate_left
  · intro htail
    obtain ⟨B2, q2, ⟨rfl, b1, b2⟩ | ⟨rfl, b1⟩⟩ := hcy
    · (refine VT_ok hctr (rs := res4) true 12 _ _ _ ?_; simp (maxSteps := 1000000) only [VT, jf, jg, jZ, ja, jd, je, VC, qA, qB, qC, qD, qE, qF, qG, qH, qI, qJ, qK, qL, qM, qN, qO, qP, qQ, qR, qS, qT, qU, qV, qW, qX, qY, qZ, qe, qf, qg, qh, qj, qk, ql, qm, qn, qo, qp, qq, q0t, qu, qv, ev, qw, qy, qz, zA, zB, zC, zD, zE, zF, zG, zH, zI, zJ, TE.sv, zK, zL, zM, ↓reduceIte, reduceCtorEq, Value.oneCell', Nat.reduceEqDiff, Nat.reduceAdd, Nat.reduceLT, Nat.reduceBEq, Nat.reduceSub, Nat.reduceLeDiff, zP, zQ, zR, zS, zT, zU, zV, zW, zX, zY, zZ, za, zb, zc, zd, ze, zf, zg, zh, zi, zj, zk, zl, zm, zn, zo, zp, zq, zr, zt, zu, zw, zx, zy, zz, cE, jA, jB, hap, killE, deadOf, rwE, cD, cO, jC, jD, jE, jF, jG, jH, jI, jJ, jK, jL, jM, jN, jO, jP, jQ, jR, jS, jT, jU, jV, jW, jX, jY, hP, hk, res4, kp4, clC, gqZ, gqS, Int.toNat_natCast, Int.le_refl, beq_self_eq_true, bne_self_eq_false, Bool.not_false, Bool.not_true, q2, b1, b2])
      exact htail () _ (sub_mk ⟨rfl, rfl, rfl, rfl, trivial⟩)
    · subst b1
      (refine VT_ok hctr (rs := res4) true 7 _ _ _ ?_; simp (maxSteps := 1000000) only [VT, jf, jg, jZ, ja, jd, je, VC, qA, qB, qC, qD, qE, qF, qG, qH, qI, qJ, qK, qL, qM, qN, qO, qP, qQ, qR, qS, qT, qU, qV, qW, qX, qY, qZ, qe, qf, qg, qh, qj, qk, ql, qm, qn, qo, qp, qq, q0t, qu, qv, ev, qw, qy, qz, zA, zB, zC, zD, zE, zF, zG, zH, zI, zJ, TE.sv, zK, zL, zM, ↓reduceIte, reduceCtorEq, Value.oneCell', Nat.reduceEqDiff, Nat.reduceAdd, Nat.reduceLT, Nat.reduceBEq, Nat.reduceSub, Nat.reduceLeDiff, zP, zQ, zR, zS, zT, zU, zV, zW, zX, zY, zZ, za, zb, zc, zd, ze, zf, zg, zh, zi, zj, zk, zl, zm, zn, zo, zp, zq, zr, zt, zu, zw, zx, zy, zz, cE, jA, jB, hap, killE, deadOf, rwE, cD, cO, jC, jD, jE, jF, jG, jH, jI, jJ, jK, jL, jM, jN, jO, jP, jQ, jR, jS, jT, jU, jV, jW, jX, jY, hP, hk, res4, kp4, clC, gqZ, gqS, Int.toNat_natCast, Int.le_refl, beq_self_eq_true, bne_self_eq_false, Bool.not_false, Bool.not_true, q2])
      exact htail () _ (sub_mk ⟨rfl, rfl, rfl, rfl, trivial⟩)
  intro _
  show Run C _ 80 [(6, .c (.p 0 0)), (5, .c (.b true)), (0, .c (.i .i64 u)), (1, .c (.i .i64 v))] [cnE Cn.zero true]
  (refine VT_ok hctr (rs := res4) true 300 _ _ _ ?_; simp (maxSteps := 1000000) only [VT, jf, jg, jZ, ja, jd, je, VC, qA, qB, qC, qD, qE, qF, qG, qH, qI, qJ, qK, qL, qM, qN, qO, qP, qQ, qR, qS, qT, qU, qV, qW, qX, qY, qZ, qe, qf, qg, qh, qj, qk, ql, qm, qn, qo, qp, qq, q0t, qu, qv, ev, qw, qy, qz, zA, zB, zC, zD, zE, zF, zG, zH, zI, zJ, TE.sv, zK, zL, zM, ↓reduceIte, reduceCtorEq, Value.oneCell', Nat.reduceEqDiff, Nat.reduceAdd, Nat.reduceLT, Nat.reduceBEq, Nat.reduceSub, Nat.reduceLeDiff, zP, zQ, zR, zS, zT, zU, zV, zW, zX, zY, zZ, za, zb, zc, zd, ze, zf, zg, zh, zi, zj, zk, zl, zm, zn, zo, zp, zq, zr, zt, zu, zw, zx, zy, zz, cE, jA, jB, hap, killE, deadOf, rwE, cD, cO, jC, jD, jE, jF, jG, jH, jI, jJ, jK, jL, jM, jN, jO, jP, jQ, jR, jS, jT, jU, jV, jW, jX, jY, hP, hk, res4, kp4, clC, gqZ, gqS, Int.toNat_natCast, Int.le_refl, beq_self_eq_true, bne_self_eq_false, Bool.not_false, Bool.not_true, r1, r2, r3, r4])
  repeat (refine ⟨by omega, ?_⟩)
  refine make_op (t := 33) (e := 5) (n := W) (bts := 1) (z := .i .u8 0) (by rw [hP]; exact Tryz.underlying33) (by rw [hP]; exact hi') hz0 hz1 hz2 rfl (fun _ => rfl) (fun _ => trivial) (by show ¬ (5 : Nat) = DEAD; decide) rfl rfl (by omega) (by omega) rfl (by simp) ?_
  (refine VT_ok hctr (rs := res4) true 300 _ _ _ ?_; simp (maxSteps := 1000000) only [VT, jf, jg, jZ, ja, jd, je, VC, qA, qB, qC, qD, qE, qF, qG, qH, qI, qJ, qK, qL, qM, qN, qO, qP, qQ, qR, qS, qT, qU, qV, qW, qX, qY, qZ, qe, qf, qg, qh, qj, qk, ql, qm, qn, qo, qp, qq, q0t, qu, qv, ev, qw, qy, qz, zA, zB, zC, zD, zE, zF, zG, zH, zI, zJ, TE.sv, zK, zL, zM, ↓reduceIte, reduceCtorEq, Value.oneCell', Nat.reduceEqDiff, Nat.reduceAdd, Nat.reduceLT, Nat.reduceBEq, Nat.reduceSub, Nat.reduceLeDiff, zP, zQ, zR, zS, zT, zU, zV, zW, zX, zY, zZ, za, zb, zc, zd, ze, zf, zg, zh, zi, zj, zk, zl, zm, zn, zo, zp, zq, zr, zt, zu, zw, zx, zy, zz, cE, jA, jB, hap, killE, deadOf, rwE, cD, cO, jC, jD, jE, jF, jG, jH, jI, jJ, jK, jL, jM, jN, jO, jP, jQ, jR, jS, jT, jU, jV, jW, jX, jY, hP, hk, res4, kp4, clC, gqZ, gqS, Int.toNat_natCast, Int.le_refl, beq_self_eq_true, bne_self_eq_false, Bool.not_false, Bool.not_true])
  have hbs : SrcOk C [cnE Cn.zero true, ⟨(5, 0, whole), List.replicate W (.i .u8 0), true⟩] (.sl 1 0 W W) (zs W).length ((zs W).map fun b => SC.i .u8 (b.toNat : Int)) := by
    rw [zs_len]
    exact src_sl (L := W) rfl (by rw [takeAt_of (by simp)]; simp [zs])
  refine bytes_op (bs := zs W) (s := 33) (e := 5) (X := .sl 1 0 W W) (by rw [hP]; exact Tryz.underlying33) (by rw [hP]; exact Tryz.underlying9) (by rw [hP]; exact Tryz.underlying5) rfl hbs rfl (by simp) ?_
  (refine VT_ok hctr (rs := res4) true 300 _ _ _ ?_; simp (maxSteps := 1000000) only [VT, jf, jg, jZ, ja, jd, je, VC, qA, qB, qC, qD, qE, qF, qG, qH, qI, qJ, qK, qL, qM, qN, qO, qP, qQ, qR, qS, qT, qU, qV, qW, qX, qY, qZ, qe, qf, qg, qh, qj, qk, ql, qm, qn, qo, qp, qq, q0t, qu, qv, ev, qw, qy, qz, zA, zB, zC, zD, zE, zF, zG, zH, zI, zJ, TE.sv, zK, zL, zM, ↓reduceIte, reduceCtorEq, Value.oneCell', Nat.reduceEqDiff, Nat.reduceAdd, Nat.reduceLT, Nat.reduceBEq, Nat.reduceSub, Nat.reduceLeDiff, zP, zQ, zR, zS, zT, zU, zV, zW, zX, zY, zZ, za, zb, zc, zd, ze, zf, zg, zh, zi, zj, zk, zl, zm, zn, zo, zp, zq, zr, zt, zu, zw, zx, zy, zz, cE, jA, jB, hap, killE, deadOf, rwE, cD, cO, jC, jD, jE, jF, jG, jH, jI, jJ, jK, jL, jM, jN, jO, jP, jQ, jR, jS, jT, jU, jV, jW, jX, jY, hP, hk, res4, kp4, clC, gqZ, gqS, Int.toNat_natCast, Int.le_refl, beq_self_eq_true, bne_self_eq_false, Bool.not_false, Bool.not_true])
  refine Run_cn (N := 0) (c := Cn.zero) ⟨[], zs W, 0, false⟩ (ys := [.c (.s (zs W))]) (.t []) rfl hP rfl (by simp [zG]) (fun args w => Tryz.call14 args w) (fun pr => by simp [SV.wf, SC.wf, TE.wf]) (fun ρ w g h => by have := put_w (c := Cn.zero) (zs W) (by show 0 + _ ≤ _; omega) h; rw [hput] at this; exact this) rfl (by simp) ?_
  (refine VT_ok hctr (rs := res4) true 300 _ _ _ ?_; simp (maxSteps := 1000000) only [VT, jf, jg, jZ, ja, jd, je, VC, qA, qB, qC, qD, qE, qF, qG, qH, qI, qJ, qK, qL, qM, qN, qO, qP, qQ, qR, qS, qT, qU, qV, qW, qX, qY, qZ, qe, qf, qg, qh, qj, qk, ql, qm, qn, qo, qp, qq, q0t, qu, qv, ev, qw, qy, qz, zA, zB, zC, zD, zE, zF, zG, zH, zI, zJ, TE.sv, zK, zL, zM, ↓reduceIte, reduceCtorEq, Value.oneCell', Nat.reduceEqDiff, Nat.reduceAdd, Nat.reduceLT, Nat.reduceBEq, Nat.reduceSub, Nat.reduceLeDiff, zP, zQ, zR, zS, zT, zU, zV, zW, zX, zY, zZ, za, zb, zc, zd, ze, zf, zg, zh, zi, zj, zk, zl, zm, zn, zo, zp, zq, zr, zt, zu, zw, zx, zy, zz, cE, jA, jB, hap, killE, deadOf, rwE, cD, cO, jC, jD, jE, jF, jG, jH, jI, jJ, jK, jL, jM, jN, jO, jP, jQ, jR, jS, jT, jU, jV, jW, jX, jY, hP, hk, res4, kp4, clC, gqZ, gqS, Int.toNat_natCast, Int.le_refl, beq_self_eq_true, bne_self_eq_false, Bool.not_false, Bool.not_true])
  refine Run_cn (N := 0) (c := ⟨[], zs W, 0, false⟩) (cW W) (ys := [.c (.s mn)]) (.c (.i .i64 3)) rfl hP rfl (by simp [zG]) (fun args w => Tryz.call11 args w) (fun pr => by simp [SV.wf, SC.wf, TE.wf]) (fun ρ w g h => by have := feed_w ok0 mn (by simp [mn]) h; rw [feed_mn] at this; exact this) rfl (by simp) ?_
  by_cases hb : W < 100000
  · have c1 : decide ((W : Int) < 100000) = true := decide_eq_true (by omega)
    (refine VT_ok hctr (rs := res4) true 300 _ _ _ ?_; simp (maxSteps := 1000000) only [VT, jf, jg, jZ, ja, jd, je, VC, qA, qB, qC, qD, qE, qF, qG, qH, qI, qJ, qK, qL, qM, qN, qO, qP, qQ, qR, qS, qT, qU, qV, qW, qX, qY, qZ, qe, qf, qg, qh, qj, qk, ql, qm, qn, qo, qp, qq, q0t, qu, qv, ev, qw, qy, qz, zA, zB, zC, zD, zE, zF, zG, zH, zI, zJ, TE.sv, zK, zL, zM, ↓reduceIte, reduceCtorEq, Value.oneCell', Nat.reduceEqDiff, Nat.reduceAdd, Nat.reduceLT, Nat.reduceBEq, Nat.reduceSub, Nat.reduceLeDiff, zP, zQ, zR, zS, zT, zU, zV, zW, zX, zY, zZ, za, zb, zc, zd, ze, zf, zg, zh, zi, zj, zk, zl, zm, zn, zo, zp, zq, zr, zt, zu, zw, zx, zy, zz, cE, jA, jB, hap, killE, deadOf, rwE, cD, cO, jC, jD, jE, jF, jG, jH, jI, jJ, jK, jL, jM, jN, jO, jP, jQ, jR, jS, jT, jU, jV, jW, jX, jY, hP, hk, res4, kp4, clC, gqZ, gqS, Int.toNat_natCast, Int.le_refl, beq_self_eq_true, bne_self_eq_false, Bool.not_false, Bool.not_true, c1])
    refine Run_next (G := 0) okW (next_mn (o := zs W) (by omega)) hP hE rfl (by simp [zG]) (by rw [hn0]; exact Nat.zero_le _) rfl (by simp) ?_
    (refine VT_ok hctr (rs := res4) true 300 _ _ _ ?_; simp (maxSteps := 1000000) only [VT, jf, jg, jZ, ja, jd, je, VC, qA, qB, qC, qD, qE, qF, qG, qH, qI, qJ, qK, qL, qM, qN, qO, qP, qQ, qR, qS, qT, qU, qV, qW, qX, qY, qZ, qe, qf, qg, qh, qj, qk, ql, qm, qn, qo, qp, qq, q0t, qu, qv, ev, qw, qy, qz, zA, zB, zC, zD, zE, zF, zG, zH, zI, zJ, TE.sv, zK, zL, zM, ↓reduceIte, reduceCtorEq, Value.oneCell', Nat.reduceEqDiff, Nat.reduceAdd, Nat.reduceLT, Nat.reduceBEq, Nat.reduceSub, Nat.reduceLeDiff, zP, zQ, zR, zS, zT, zU, zV, zW, zX, zY, zZ, za, zb, zc, zd, ze, zf, zg, zh, zi, zj, zk, zl, zm, zn, zo, zp, zq, zr, zt, zu, zw, zx, zy, zz, cE, jA, jB, hap, killE, deadOf, rwE, cD, cO, jC, jD, jE, jF, jG, jH, jI, jJ, jK, jL, jM, jN, jO, jP, jQ, jR, jS, jT, jU, jV, jW, jX, jY, hP, hk, res4, kp4, clC, gqZ, gqS, Int.toNat_natCast, Int.le_refl, beq_self_eq_true, bne_self_eq_false, Bool.not_false, Bool.not_true])
    exact fin _
  · have c1 : decide ((W : Int) < 100000) = false := decide_eq_false (by omega)
    (refine VT_ok hctr (rs := res4) true 300 _ _ _ ?_; simp (maxSteps := 1000000) only [VT, jf, jg, jZ, ja, jd, je, VC, qA, qB, qC, qD, qE, qF, qG, qH, qI, qJ, qK, qL, qM, qN, qO, qP, qQ, qR, qS, qT, qU, qV, qW, qX, qY, qZ, qe, qf, qg, qh, qj, qk, ql, qm, qn, qo, qp, qq, q0t, qu, qv, ev, qw, qy, qz, zA, zB, zC, zD, zE, zF, zG, zH, zI, zJ, TE.sv, zK, zL, zM, ↓reduceIte, reduceCtorEq, Value.oneCell', Nat.reduceEqDiff, Nat.reduceAdd, Nat.reduceLT, Nat.reduceBEq, Nat.reduceSub, Nat.reduceLeDiff, zP, zQ, zR, zS, zT, zU, zV, zW, zX, zY, zZ, za, zb, zc, zd, ze, zf, zg, zh, zi, zj, zk, zl, zm, zn, zo, zp, zq, zr, zt, zu, zw, zx, zy, zz, cE, jA, jB, hap, killE, deadOf, rwE, cD, cO, jC, jD, jE, jF, jG, jH, jI, jJ, jK, jL, jM, jN, jO, jP, jQ, jR, jS, jT, jU, jV, jW, jX, jY, hP, hk, res4, kp4, clC, gqZ, gqS, Int.toNat_natCast, Int.le_refl, beq_self_eq_true, bne_self_eq_false, Bool.not_false, Bool.not_true, c1])
    refine Run_next (G := 0) okW (next_full (o := zs W) (by omega)) hP hE rfl (by simp [zG]) (by rw [hn0]; exact Nat.zero_le _) rfl (by simp) ?_
    (refine VT_ok hctr (rs := res4) true 300 _ _ _ ?_; simp (maxSteps := 1000000) only [VT, jf, jg, jZ, ja, jd, je, VC, qA, qB, qC, qD, qE, qF, qG, qH, qI, qJ, qK, qL, qM, qN, qO, qP, qQ, qR, qS, qT, qU, qV, qW, qX, qY, qZ, qe, qf, qg, qh, qj, qk, ql, qm, qn, qo, qp, qq, q0t, qu, qv, ev, qw, qy, qz, zA, zB, zC, zD, zE, zF, zG, zH, zI, zJ, TE.sv, zK, zL, zM, ↓reduceIte, reduceCtorEq, Value.oneCell', Nat.reduceEqDiff, Nat.reduceAdd, Nat.reduceLT, Nat.reduceBEq, Nat.reduceSub, Nat.reduceLeDiff, zP, zQ, zR, zS, zT, zU, zV, zW, zX, zY, zZ, za, zb, zc, zd, ze, zf, zg, zh, zi, zj, zk, zl, zm, zn, zo, zp, zq, zr, zt, zu, zw, zx, zy, zz, cE, jA, jB, hap, killE, deadOf, rwE, cD, cO, jC, jD, jE, jF, jG, jH, jI, jJ, jK, jL, jM, jN, jO, jP, jQ, jR, jS, jT, jU, jV, jW, jX, jY, hP, hk, res4, kp4, clC, gqZ, gqS, Int.toNat_natCast, Int.le_refl, beq_self_eq_true, bne_self_eq_false, Bool.not_false, Bool.not_true, Gq.zero])
    have hwr : cnWrite (cW W) (V : Int) = (⟨mn, zs (W - V), 0, false⟩, zs V) := by
      unfold cnWrite cnHow cW
      simp only [Int.toNat_natCast, zs_len]
      rw [show min V W = V by omega]
      simp only [zs, List.drop_replicate, List.take_replicate, show min V W = V by omega]
    have okR : CnOk ⟨mn, zs (W - V), 0, false⟩ := ⟨by show 3 ≤ 70000; decide, by show (zs (W - V)).length ≤ _; rw [zs_len]; omega, Int.le_refl _, by show (0 : Int) ≤ _; decide⟩
    refine Run_cn (N := 0) (c := (cW W)) ⟨mn, zs (W - V), 0, false⟩ (ys := [.c (.i .i64 (V : Int))]) (.c (.s (zs V))) rfl hP rfl (by simp [zG]) (fun args w => Tryz.call15 args w) (fun pr => by simp [SV.wf, SC.wf, TE.wf]) (fun ρ w g h => by have := write_w (V : Int) okW.out h; rw [hwr] at this; exact this) rfl (by simp) ?_
    (refine VT_ok hctr (rs := res4) true 300 _ _ _ ?_; simp (maxSteps := 1000000) only [VT, jf, jg, jZ, ja, jd, je, VC, qA, qB, qC, qD, qE, qF, qG, qH, qI, qJ, qK, qL, qM, qN, qO, qP, qQ, qR, qS, qT, qU, qV, qW, qX, qY, qZ, qe, qf, qg, qh, qj, qk, ql, qm, qn, qo, qp, qq, q0t, qu, qv, ev, qw, qy, qz, zA, zB, zC, zD, zE, zF, zG, zH, zI, zJ, TE.sv, zK, zL, zM, ↓reduceIte, reduceCtorEq, Value.oneCell', Nat.reduceEqDiff, Nat.reduceAdd, Nat.reduceLT, Nat.reduceBEq, Nat.reduceSub, Nat.reduceLeDiff, zP, zQ, zR, zS, zT, zU, zV, zW, zX, zY, zZ, za, zb, zc, zd, ze, zf, zg, zh, zi, zj, zk, zl, zm, zn, zo, zp, zq, zr, zt, zu, zw, zx, zy, zz, cE, jA, jB, hap, killE, deadOf, rwE, cD, cO, jC, jD, jE, jF, jG, jH, jI, jJ, jK, jL, jM, jN, jO, jP, jQ, jR, jS, jT, jU, jV, jW, jX, jY, hP, hk, res4, kp4, clC, gqZ, gqS, Int.toNat_natCast, Int.le_refl, beq_self_eq_true, bne_self_eq_false, Bool.not_false, Bool.not_true, Gq.zero])
    have hvl := zs_len V
    have d1 : IntKind.i64.wrap ((W : Int) - (V : Int)) = (W : Int) - (V : Int) := IntWalk.i64_in _ (by omega)
    by_cases hf : W - V < 100000
    · have c2 : decide ((W : Int) - (V : Int) < 100000) = true := decide_eq_true (by omega)
      refine Run_next (G := 0) okR (next_mn (o := zs (W - V)) (by rw [zs_len]; omega)) hP hE rfl (by simp [zG]) (by rw [hn0]; exact Nat.zero_le _) rfl (by simp) ?_
      (refine VT_ok hctr (rs := res4) true 300 _ _ _ ?_; simp (maxSteps := 1000000) only [VT, jf, jg, jZ, ja, jd, je, VC, qA, qB, qC, qD, qE, qF, qG, qH, qI, qJ, qK, qL, qM, qN, qO, qP, qQ, qR, qS, qT, qU, qV, qW, qX, qY, qZ, qe, qf, qg, qh, qj, qk, ql, qm, qn, qo, qp, qq, q0t, qu, qv, ev, qw, qy, qz, zA, zB, zC, zD, zE, zF, zG, zH, zI, zJ, TE.sv, zK, zL, zM, ↓reduceIte, reduceCtorEq, Value.oneCell', Nat.reduceEqDiff, Nat.reduceAdd, Nat.reduceLT, Nat.reduceBEq, Nat.reduceSub, Nat.reduceLeDiff, zP, zQ, zR, zS, zT, zU, zV, zW, zX, zY, zZ, za, zb, zc, zd, ze, zf, zg, zh, zi, zj, zk, zl, zm, zn, zo, zp, zq, zr, zt, zu, zw, zx, zy, zz, cE, jA, jB, hap, killE, deadOf, rwE, cD, cO, jC, jD, jE, jF, jG, jH, jI, jJ, jK, jL, jM, jN, jO, jP, jQ, jR, jS, jT, jU, jV, jW, jX, jY, hP, hk, res4, kp4, clC, gqZ, gqS, Int.toNat_natCast, Int.le_refl, beq_self_eq_true, bne_self_eq_false, Bool.not_false, Bool.not_true, Gq.zero, hvl, d1, c2])
      exact ⟨Tryz.underlying4, fin _⟩
    · have c2 : decide ((W : Int) - (V : Int) < 100000) = false := decide_eq_false (by omega)
      refine Run_next (G := 0) okR (next_full (o := zs (W - V)) (by rw [zs_len]; omega)) hP hE rfl (by simp [zG]) (by rw [hn0]; exact Nat.zero_le _) rfl (by simp) ?_
      (refine VT_ok hctr (rs := res4) true 300 _ _ _ ?_; simp (maxSteps := 1000000) only [VT, jf, jg, jZ, ja, jd, je, VC, qA, qB, qC, qD, qE, qF, qG, qH, qI, qJ, qK, qL, qM, qN, qO, qP, qQ, qR, qS, qT, qU, qV, qW, qX, qY, qZ, qe, qf, qg, qh, qj, qk, ql, qm, qn, qo, qp, qq, q0t, qu, qv, ev, qw, qy, qz, zA, zB, zC, zD, zE, zF, zG, zH, zI, zJ, TE.sv, zK, zL, zM, ↓reduceIte, reduceCtorEq, Value.oneCell', Nat.reduceEqDiff, Nat.reduceAdd, Nat.reduceLT, Nat.reduceBEq, Nat.reduceSub, Nat.reduceLeDiff, zP, zQ, zR, zS, zT, zU, zV, zW, zX, zY, zZ, za, zb, zc, zd, ze, zf, zg, zh, zi, zj, zk, zl, zm, zn, zo, zp, zq, zr, zt, zu, zw, zx, zy, zz, cE, jA, jB, hap, killE, deadOf, rwE, cD, cO, jC, jD, jE, jF, jG, jH, jI, jJ, jK, jL, jM, jN, jO, jP, jQ, jR, jS, jT, jU, jV, jW, jX, jY, hP, hk, res4, kp4, clC, gqZ, gqS, Int.toNat_natCast, Int.le_refl, beq_self_eq_true, bne_self_eq_false, Bool.not_false, Bool.not_true, Gq.zero, hvl, d1, c2])
      exact ⟨Tryz.underlying4, fin _⟩
end Go.Proofs.YtehfcboiimdkbaaGreatDoor
