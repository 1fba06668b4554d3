/- ambrylaw21.digits, walked. -/
import Derived.Test.YtlaagebdbcmckaaGreatDoorCEquiet
import Derived.Test.YtlaagebdbcmckaaGreatDoorCSxMake
namespace Go.Proofs.YtlaagebdbcmckaaGreatDoor
set_option linter.unusedSimpArgs false
set_option linter.unusedVariables false
set_option linter.unusedSimpArgs false
set_option linter.unusedVariables false
set_option maxHeartbeats 8000000
open Go.RowKit
set_option maxRecDepth 100000

def dgC (n : Nat) : Ctr := fun f _ xs => match f with
  | 18 => (match xs with
    | [.c (.i .i64 m)] => some (0 ≤ m ∧ m < (n : Int), .c (.s (Lib.decDigits m.toNat)))
    | _ => none)
  | _ => none
theorem dig_w : ∀ (n : Nat), n ≤ 1000000 → ∀ w : World, Calls Tryz.prog 18 #[.int .i64 (n : Int)] w fun e w' => e = .returned (.string ⟨(Lib.decDigits n).toArray⟩) ∧ Below w.heap.size w w' := by
  intro n
  induction n using Nat.strongRecOn with
  | _ n ih =>
    intro hn w
    refine calls_of_Run Tryz.func18 rfl kp18 (S := Non) (ρ := fun _ => reOf 0) (en := []) [.c (.i .i64 (n : Int))] Tryz.ntmps18 (At.nil _ _ _) (by simp [SV.wf, SC.wf]) (by simp) ?_
    intro C hC hP hk
    have hctr : CtrOk C (dgC n) := by
      intro f en xs p v h hp ρ w hup hHp hHo hinj hwf
      unfold dgC at h
      split at h
      · rw [hP]
        refine ⟨fun args w => Tryz.call18 args w, ?_⟩
        split at h <;> simp only [Option.some.injEq, Prod.mk.injEq, reduceCtorEq] at h
        rename_i m
        obtain ⟨rfl, rfl⟩ := h
        refine ⟨trivial, ?_⟩
        obtain ⟨k, rfl⟩ := Int.eq_ofNat_of_zero_le hp.1
        exact ih k (by omega) (by omega) w
      · cases h
    have fin : ∀ l en, Lib.decDigits n = l → Fin C res18 (.c (.s l)) en := fun l en hl => by subst hl; exact Fin_ro (v := .c (.s (Lib.decDigits n))) hC hres18 rfl trivial
    by_cases h10 : n < 10
    · have c0 : decide ((n : Int) < 10) = true := decide_eq_true (by omega)
      have w1 : IntKind.i64.wrap (48 + (n : Int)) = ((48 + n : Nat) : Int) := by rw [IntWalk.i64_in _ (by omega)]; omega
      have w2 : IntKind.u8.wrap ((48 + n : Nat) : Int) = ((UInt8.ofNat (48 + n)).toNat : Int) := by rw [u8w, UInt8.toNat_ofNat']
      (refine VT_ok hctr (rs := res18) true 300 _ _ _ ?_; simp (config := { maxSteps := 1000000 }) only [VT, f00, f01, opG_t, opG_f, putG_t, putG_f, VC, appL, repZ, mkFs, newSl, resS, teS, resV, opK, putK, storeK, softS, eqC, eqCs, callS, moveS, loadS, nilS, binV, binS, unS, convS, faS, fldS, iaS, ixS, slS, lenS, buildS, fillS, extS, ifS, capsS, boundS, strLen, minS, maxS, pickS, plainS, oneS, onesS, cellsS, ev, evs, getS, ofVal, takeN, takeAt, layN, nthS, setN, snoc, lenN, unw, memN, trimS, TE.sv, argS, cxOf, lays, ↓reduceIte, reduceCtorEq, Value.oneCell', Nat.reduceEqDiff, Nat.reduceAdd, Nat.reduceLT, Nat.reduceBEq, Nat.reduceSub, Nat.reduceLeDiff, e00, e01, e02, e03, e04, e05, e06, e07, e08, e09, e10, e11, e12, e13, e14, e15, e16, e17, e18, e19, e20, e21, e22, e23, e24, e25, e26, e27, e28, e29, e30, e31, e32, e33, e34, cE, cOE, hcs, hap, killE, deadOf, rwE, cD, cO, consD, gdS, eqB, newC, mkV, storeC, firstN, snocAll, appAll, dropN, repN, putSl, slAt, allL, lvC, softC, ckD, ckO, hcallC, wfC, wfL, wfE, wfV, hP, hk, res18, kp18, dgC, c0, w1, w2, Nat.reduceMul])
      refine bytes_op (e := 5) (X := .sl 0 0 1 1) (bs := [UInt8.ofNat (48 + n)]) (by rw [hP]; exact Tryz.underlying73) (by rw [hP]; exact Tryz.underlying9) (by rw [hP]; exact Tryz.underlying5) rfl (src_sl (L := 1) rfl rfl) rfl (by simp) ?_
      (refine VT_ok hctr (rs := res18) true 300 _ _ _ ?_; simp (config := { maxSteps := 1000000 }) only [VT, f00, f01, opG_t, opG_f, putG_t, putG_f, VC, appL, repZ, mkFs, newSl, resS, teS, resV, opK, putK, storeK, softS, eqC, eqCs, callS, moveS, loadS, nilS, binV, binS, unS, convS, faS, fldS, iaS, ixS, slS, lenS, buildS, fillS, extS, ifS, capsS, boundS, strLen, minS, maxS, pickS, plainS, oneS, onesS, cellsS, ev, evs, getS, ofVal, takeN, takeAt, layN, nthS, setN, snoc, lenN, unw, memN, trimS, TE.sv, argS, cxOf, lays, ↓reduceIte, reduceCtorEq, Value.oneCell', Nat.reduceEqDiff, Nat.reduceAdd, Nat.reduceLT, Nat.reduceBEq, Nat.reduceSub, Nat.reduceLeDiff, e00, e01, e02, e03, e04, e05, e06, e07, e08, e09, e10, e11, e12, e13, e14, e15, e16, e17, e18, e19, e20, e21, e22, e23, e24, e25, e26, e27, e28, e29, e30, e31, e32, e33, e34, cE, cOE, hcs, hap, killE, deadOf, rwE, cD, cO, consD, gdS, eqB, newC, mkV, storeC, firstN, snocAll, appAll, dropN, repN, putSl, slAt, allL, lvC, softC, ckD, ckO, hcallC, wfC, wfL, wfE, wfV, hP, hk, res18, kp18, dgC])
      exact fin _ _ (Lib.decDigits_one h10)
    · have c0 : decide ((n : Int) < 10) = false := decide_eq_false (by omega)
      have w1 : (n : Int).tdiv 10 = ((n / 10 : Nat) : Int) := by rw [Int.tdiv_eq_ediv_of_nonneg (by omega)]; omega
      have w2 : (n : Int).tmod 10 = ((n % 10 : Nat) : Int) := by rw [Int.tmod_eq_emod_of_nonneg (by omega)]; omega
      have w3 : IntKind.i64.wrap ((n / 10 : Nat) : Int) = ((n / 10 : Nat) : Int) := IntWalk.i64_in _ (by omega)
      have w4 : IntKind.i64.wrap ((n % 10 : Nat) : Int) = ((n % 10 : Nat) : Int) := IntWalk.i64_in _ (by omega)
      have d1 := dec_le20 (n := n / 10) (by omega)
      have d2 := dec_le20 (n := n % 10) (by omega)
      (refine VT_ok hctr (rs := res18) true 300 _ _ _ ?_; simp (config := { maxSteps := 1000000 }) only [VT, f00, f01, opG_t, opG_f, putG_t, putG_f, VC, appL, repZ, mkFs, newSl, resS, teS, resV, opK, putK, storeK, softS, eqC, eqCs, callS, moveS, loadS, nilS, binV, binS, unS, convS, faS, fldS, iaS, ixS, slS, lenS, buildS, fillS, extS, ifS, capsS, boundS, strLen, minS, maxS, pickS, plainS, oneS, onesS, cellsS, ev, evs, getS, ofVal, takeN, takeAt, layN, nthS, setN, snoc, lenN, unw, memN, trimS, TE.sv, argS, cxOf, lays, ↓reduceIte, reduceCtorEq, Value.oneCell', Nat.reduceEqDiff, Nat.reduceAdd, Nat.reduceLT, Nat.reduceBEq, Nat.reduceSub, Nat.reduceLeDiff, e00, e01, e02, e03, e04, e05, e06, e07, e08, e09, e10, e11, e12, e13, e14, e15, e16, e17, e18, e19, e20, e21, e22, e23, e24, e25, e26, e27, e28, e29, e30, e31, e32, e33, e34, cE, cOE, hcs, hap, killE, deadOf, rwE, cD, cO, consD, gdS, eqB, newC, mkV, storeC, firstN, snocAll, appAll, dropN, repN, putSl, slAt, allL, lvC, softC, ckD, ckO, hcallC, wfC, wfL, wfE, wfV, hP, hk, res18, kp18, dgC, c0, w1, w2, w3, w4, Int.toNat_natCast])
      repeat (refine ⟨by omega, ?_⟩)
      exact fin _ _ (by rw [dec_step n (by omega), Lib.decDigits_one (i := n % 10) (by omega)])
end Go.Proofs.YtlaagebdbcmckaaGreatDoor
