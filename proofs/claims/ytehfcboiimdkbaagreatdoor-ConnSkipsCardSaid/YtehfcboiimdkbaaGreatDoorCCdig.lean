/- ambrylaw22.digits, walked. -/
import Derived.Test.YtehfcboiimdkbaaGreatDoorCClaw
import Derived.Test.YtehfcboiimdkbaaGreatDoorCSxMake
namespace Go.Proofs.YtehfcboiimdkbaaGreatDoor
set_option linter.unusedSimpArgs false
set_option linter.unusedVariables false
set_option linter.unusedSimpArgs false
set_option linter.unusedVariables false
set_option maxHeartbeats 8000000
open Go.RowKit
set_option maxRecDepth 100000
theorem dec_le20 {n : Nat} (h : n < 18446744073709551616) : (Lib.decDigits n).length ≤ 20 := by
  have := dec_len_le n (by omega)
  omega
def dgC (n : Nat) : Ctr := fun f _ xs => match f with
  | 12 => (match xs with
    | [.c (.i .i64 m)] => some (0 ≤ m ∧ m < (n : Int), .c (.s (Lib.decDigits m.toNat)))
    | _ => none)
  | _ => none
theorem dig_w : ∀ (n : Nat), n ≤ 1000000 → ∀ w : World, Calls Tryz.prog 12 #[.int .i64 (n : Int)] w fun e w' => e = .returned (.string ⟨(Lib.decDigits n).toArray⟩) ∧ Below w.heap.size w w' := by
  intro n
  induction n using Nat.strongRecOn with
  | _ n ih =>
    intro hn w
    refine calls_of_Run Tryz.func12 rfl kp12 (S := Non) (ρ := fun _ => reOf 0) (en := []) [.c (.i .i64 (n : Int))] Tryz.ntmps12 (At.nil _ _ _) (by simp [SV.wf, SC.wf]) (by simp) ?_
    intro C hC hP hk
    have hctr : CtrOk C (dgC n) := by
      intro f en xs p v h hp ρ w hup hHp hHo hinj hwf
      unfold dgC at h
      split at h
      · rw [hP]
        refine ⟨fun args w => Tryz.call12 args w, ?_⟩
        split at h <;> simp only [Option.some.injEq, Prod.mk.injEq, reduceCtorEq] at h
        rename_i m
        obtain ⟨rfl, rfl⟩ := h
        refine ⟨trivial, ?_⟩
        obtain ⟨k, rfl⟩ := Int.eq_ofNat_of_zero_le hp.1
        exact ih k (by omega) (by omega) w
      · cases h
    have fin : ∀ l en, Lib.decDigits n = l → Fin C res12 (.c (.s l)) en := fun l en hl => by subst hl; exact Fin_ro (v := .c (.s (Lib.decDigits n))) hC hres12 rfl trivial
    by_cases h10 : n < 10
    · have c0 : decide ((n : Int) < 10) = true := decide_eq_true (by omega)
      have w1 : IntKind.i64.wrap (48 + (n : Int)) = ((48 + n : Nat) : Int) := by rw [IntWalk.i64_in _ (by omega)]; omega
      have w2 : IntKind.u8.wrap ((48 + n : Nat) : Int) = ((UInt8.ofNat (48 + n)).toNat : Int) := by rw [u8w, UInt8.toNat_ofNat']
      (refine VT_ok hctr (rs := res12) true 300 _ _ _ ?_; simp (maxSteps := 1000000) only [VT, jf, jg, jZ, ja, jd, je, VC, qA, qB, qC, qD, qE, qF, qG, qH, qI, qJ, qK, qL, qM, qN, qO, qP, qQ, qR, qS, qT, qU, qV, qW, qX, qY, qZ, qe, qf, qg, qh, qj, qk, ql, qm, qn, qo, qp, qq, q0t, qu, qv, ev, qw, qy, qz, zA, zB, zC, zD, zE, zF, zG, zH, zI, zJ, TE.sv, zK, zL, zM, ↓reduceIte, reduceCtorEq, Value.oneCell', Nat.reduceEqDiff, Nat.reduceAdd, Nat.reduceLT, Nat.reduceBEq, Nat.reduceSub, Nat.reduceLeDiff, zP, zQ, zR, zS, zT, zU, zV, zW, zX, zY, zZ, za, zb, zc, zd, ze, zf, zg, zh, zi, zj, zk, zl, zm, zn, zo, zp, zq, zr, zt, zu, zw, zx, zy, zz, cE, jA, jB, hap, killE, deadOf, rwE, cD, cO, jC, jD, jE, jF, jG, jH, jI, jJ, jK, jL, jM, jN, jO, jP, jQ, jR, jS, jT, jU, jV, jW, jX, jY, hP, hk, res12, kp12, dgC, c0, w1, w2, Nat.reduceMul])
      refine bytes_op (e := 5) (X := .sl 0 0 1 1) (bs := [UInt8.ofNat (48 + n)]) (by rw [hP]; exact Tryz.underlying33) (by rw [hP]; exact Tryz.underlying9) (by rw [hP]; exact Tryz.underlying5) rfl (src_sl (L := 1) rfl rfl) rfl (by simp) ?_
      (refine VT_ok hctr (rs := res12) true 300 _ _ _ ?_; simp (maxSteps := 1000000) only [VT, jf, jg, jZ, ja, jd, je, VC, qA, qB, qC, qD, qE, qF, qG, qH, qI, qJ, qK, qL, qM, qN, qO, qP, qQ, qR, qS, qT, qU, qV, qW, qX, qY, qZ, qe, qf, qg, qh, qj, qk, ql, qm, qn, qo, qp, qq, q0t, qu, qv, ev, qw, qy, qz, zA, zB, zC, zD, zE, zF, zG, zH, zI, zJ, TE.sv, zK, zL, zM, ↓reduceIte, reduceCtorEq, Value.oneCell', Nat.reduceEqDiff, Nat.reduceAdd, Nat.reduceLT, Nat.reduceBEq, Nat.reduceSub, Nat.reduceLeDiff, zP, zQ, zR, zS, zT, zU, zV, zW, zX, zY, zZ, za, zb, zc, zd, ze, zf, zg, zh, zi, zj, zk, zl, zm, zn, zo, zp, zq, zr, zt, zu, zw, zx, zy, zz, cE, jA, jB, hap, killE, deadOf, rwE, cD, cO, jC, jD, jE, jF, jG, jH, jI, jJ, jK, jL, jM, jN, jO, jP, jQ, jR, jS, jT, jU, jV, jW, jX, jY, hP, hk, res12, kp12, dgC])
      exact fin _ _ (Lib.decDigits_one h10)
    · have c0 : decide ((n : Int) < 10) = false := decide_eq_false (by omega)
      have w1 : (n : Int).tdiv 10 = ((n / 10 : Nat) : Int) := by rw [Int.tdiv_eq_ediv_of_nonneg (by omega)]; omega
      have w2 : (n : Int).tmod 10 = ((n % 10 : Nat) : Int) := by rw [Int.tmod_eq_emod_of_nonneg (by omega)]; omega
      have w3 : IntKind.i64.wrap ((n / 10 : Nat) : Int) = ((n / 10 : Nat) : Int) := IntWalk.i64_in _ (by omega)
      have w4 : IntKind.i64.wrap ((n % 10 : Nat) : Int) = ((n % 10 : Nat) : Int) := IntWalk.i64_in _ (by omega)
      have d1 := dec_le20 (n := n / 10) (by omega)
      have d2 := dec_le20 (n := n % 10) (by omega)
      (refine VT_ok hctr (rs := res12) true 300 _ _ _ ?_; simp (maxSteps := 1000000) only [VT, jf, jg, jZ, ja, jd, je, VC, qA, qB, qC, qD, qE, qF, qG, qH, qI, qJ, qK, qL, qM, qN, qO, qP, qQ, qR, qS, qT, qU, qV, qW, qX, qY, qZ, qe, qf, qg, qh, qj, qk, ql, qm, qn, qo, qp, qq, q0t, qu, qv, ev, qw, qy, qz, zA, zB, zC, zD, zE, zF, zG, zH, zI, zJ, TE.sv, zK, zL, zM, ↓reduceIte, reduceCtorEq, Value.oneCell', Nat.reduceEqDiff, Nat.reduceAdd, Nat.reduceLT, Nat.reduceBEq, Nat.reduceSub, Nat.reduceLeDiff, zP, zQ, zR, zS, zT, zU, zV, zW, zX, zY, zZ, za, zb, zc, zd, ze, zf, zg, zh, zi, zj, zk, zl, zm, zn, zo, zp, zq, zr, zt, zu, zw, zx, zy, zz, cE, jA, jB, hap, killE, deadOf, rwE, cD, cO, jC, jD, jE, jF, jG, jH, jI, jJ, jK, jL, jM, jN, jO, jP, jQ, jR, jS, jT, jU, jV, jW, jX, jY, hP, hk, res12, kp12, dgC, c0, w1, w2, w3, w4, Int.toNat_natCast])
      repeat (refine ⟨by omega, ?_⟩)
      exact fin _ _ (by rw [dec_step n (by omega), Lib.decDigits_one (i := n % 10) (by omega)])
end Go.Proofs.YtehfcboiimdkbaaGreatDoor
