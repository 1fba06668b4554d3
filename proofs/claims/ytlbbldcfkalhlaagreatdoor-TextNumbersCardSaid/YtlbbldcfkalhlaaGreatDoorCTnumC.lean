/- TextNumbers, joined. -/
import Derived.Test.YtlbbldcfkalhlaaGreatDoorCTnumA
import Derived.Test.YtlbbldcfkalhlaaGreatDoorCTnumB
namespace Go.Proofs.YtlbbldcfkalhlaaGreatDoor
set_option linter.unusedSimpArgs false
set_option linter.unusedVariables false
set_option linter.unusedSimpArgs false
set_option linter.unusedVariables false
set_option maxHeartbeats 8000000
open Go.RowKit
set_option maxRecDepth 100000

theorem numbers_walk (key : List UInt8) (n sec : Int) (quiet : Bool) (hkl : key.length ≤ 9223372036854775807) (n0 : 0 ≤ n) (n1 : n < 18446744073709551616) (w : World) (hE0 : EnvT w) :
    Calls Tryz.prog 7 #[.string ⟨key.toArray⟩, .int .u64 n, .int .i64 sec, .bool quiet] w fun e w' => e = .returned (.bool true) ∧ Below w.heap.size w w' := by
  by_cases all : keyB key = true ∧ ¬ sec < -1099511627776 ∧ ¬ 1099511627776 < sec ∧ (key == [110, 111, 114, 101, 112, 108, 121]) = false
  · obtain ⟨hkey, s0, s1, hnr⟩ := all
    by_cases sn : sec < 0
    · cases quiet
      · exact num_nq key n sec hkey s0 s1 hnr sn n0 n1 w hE0
      · exact num_np key n sec hkey s0 s1 hnr sn n0 n1 w hE0
    · cases quiet
      · exact num_pq key n sec hkey s0 s1 hnr sn n0 n1 w hE0
      · exact num_pp key n sec hkey s0 s1 hnr sn n0 n1 w hE0
  refine calls_of_Run Tryz.func7 rfl kp7 (S := Non) (ρ := fun _ => reOf 0) (en := []) [.c (.s key), .c (.i .u64 n), .c (.i .i64 sec), .c (.b quiet)] Tryz.ntmps7 (At.nil _ _ _) (by simp [SV.wf, SC.wf]) (by simp) ?_
  intro C hC hP hk
  have hE : ∀ w', Upd C.S C.w0 w' → EnvT w' := fun w' hu => by rw [hC] at hu; exact hE0.below hu.to_below
  have hctr := lwC_ok hP hE
  have fin : ∀ en, Fin C res7 (.c (.b true)) en := fun en => Fin_ro (v := .c (.b true)) hC hres7 rfl trivial
  cases hkey : keyB key with
  | false =>
    (refine VT_ok hctr (rs := res7) true 300 _ _ _ ?_; simp (config := { maxSteps := 1000000 }) only [VT, f00, f01, opG_t, opG_f, putG_t, putG_f, VC, appL, repZ, mkFs, newSl, resS, teS, resV, opK, putK, storeK, softS, eqC, eqCs, callS, moveS, loadS, nilS, binV, binS, unS, convS, faS, fldS, iaS, ixS, slS, lenS, buildS, fillS, extS, ifS, capsS, boundS, strLen, minS, maxS, pickS, plainS, oneS, onesS, cellsS, ev, evs, getS, ofVal, takeN, takeAt, layN, nthS, setN, snoc, lenN, unw, memN, trimS, TE.sv, argS, cxOf, lays, ↓reduceIte, reduceCtorEq, Value.oneCell', Nat.reduceEqDiff, Nat.reduceAdd, Nat.reduceLT, Nat.reduceBEq, Nat.reduceSub, Nat.reduceLeDiff, e00, e01, e02, e03, e04, e05, e06, e07, e08, e09, e10, e11, e12, e13, e14, e15, e16, e17, e18, e19, e20, e21, e22, e23, e24, e25, e26, e27, e28, e29, e30, e31, e32, e33, e34, cE, cOE, hcs, hap, killE, deadOf, rwE, cD, cO, consD, gdS, eqB, newC, mkV, storeC, firstN, snocAll, appAll, dropN, repN, putSl, slAt, allL, lvC, softC, ckD, ckO, hcallC, wfC, wfL, wfE, wfV, hP, hk, res7, kp7, lwC, rowKeyB, rowText, hkl, hkey])
    exact fin _
  | true =>
  by_cases s0 : sec < -1099511627776
  · have s0' : decide (sec < -1099511627776) = true := decide_eq_true s0
    (refine VT_ok hctr (rs := res7) true 300 _ _ _ ?_; simp (config := { maxSteps := 1000000 }) only [VT, f00, f01, opG_t, opG_f, putG_t, putG_f, VC, appL, repZ, mkFs, newSl, resS, teS, resV, opK, putK, storeK, softS, eqC, eqCs, callS, moveS, loadS, nilS, binV, binS, unS, convS, faS, fldS, iaS, ixS, slS, lenS, buildS, fillS, extS, ifS, capsS, boundS, strLen, minS, maxS, pickS, plainS, oneS, onesS, cellsS, ev, evs, getS, ofVal, takeN, takeAt, layN, nthS, setN, snoc, lenN, unw, memN, trimS, TE.sv, argS, cxOf, lays, ↓reduceIte, reduceCtorEq, Value.oneCell', Nat.reduceEqDiff, Nat.reduceAdd, Nat.reduceLT, Nat.reduceBEq, Nat.reduceSub, Nat.reduceLeDiff, e00, e01, e02, e03, e04, e05, e06, e07, e08, e09, e10, e11, e12, e13, e14, e15, e16, e17, e18, e19, e20, e21, e22, e23, e24, e25, e26, e27, e28, e29, e30, e31, e32, e33, e34, cE, cOE, hcs, hap, killE, deadOf, rwE, cD, cO, consD, gdS, eqB, newC, mkV, storeC, firstN, snocAll, appAll, dropN, repN, putSl, slAt, allL, lvC, softC, ckD, ckO, hcallC, wfC, wfL, wfE, wfV, hP, hk, res7, kp7, lwC, rowKeyB, rowText, hkl, hkey, s0'])
    exact fin _
  have s0' : decide (sec < -1099511627776) = false := decide_eq_false s0
  by_cases s1 : 1099511627776 < sec
  · have s1' : decide (1099511627776 < sec) = true := decide_eq_true s1
    (refine VT_ok hctr (rs := res7) true 300 _ _ _ ?_; simp (config := { maxSteps := 1000000 }) only [VT, f00, f01, opG_t, opG_f, putG_t, putG_f, VC, appL, repZ, mkFs, newSl, resS, teS, resV, opK, putK, storeK, softS, eqC, eqCs, callS, moveS, loadS, nilS, binV, binS, unS, convS, faS, fldS, iaS, ixS, slS, lenS, buildS, fillS, extS, ifS, capsS, boundS, strLen, minS, maxS, pickS, plainS, oneS, onesS, cellsS, ev, evs, getS, ofVal, takeN, takeAt, layN, nthS, setN, snoc, lenN, unw, memN, trimS, TE.sv, argS, cxOf, lays, ↓reduceIte, reduceCtorEq, Value.oneCell', Nat.reduceEqDiff, Nat.reduceAdd, Nat.reduceLT, Nat.reduceBEq, Nat.reduceSub, Nat.reduceLeDiff, e00, e01, e02, e03, e04, e05, e06, e07, e08, e09, e10, e11, e12, e13, e14, e15, e16, e17, e18, e19, e20, e21, e22, e23, e24, e25, e26, e27, e28, e29, e30, e31, e32, e33, e34, cE, cOE, hcs, hap, killE, deadOf, rwE, cD, cO, consD, gdS, eqB, newC, mkV, storeC, firstN, snocAll, appAll, dropN, repN, putSl, slAt, allL, lvC, softC, ckD, ckO, hcallC, wfC, wfL, wfE, wfV, hP, hk, res7, kp7, lwC, rowKeyB, rowText, hkl, hkey, s0', s1'])
    exact fin _
  have s1' : decide (1099511627776 < sec) = false := decide_eq_false s1
  cases hnr : (key == [110, 111, 114, 101, 112, 108, 121]) with
  | true =>
    (refine VT_ok hctr (rs := res7) true 300 _ _ _ ?_; simp (config := { maxSteps := 1000000 }) only [VT, f00, f01, opG_t, opG_f, putG_t, putG_f, VC, appL, repZ, mkFs, newSl, resS, teS, resV, opK, putK, storeK, softS, eqC, eqCs, callS, moveS, loadS, nilS, binV, binS, unS, convS, faS, fldS, iaS, ixS, slS, lenS, buildS, fillS, extS, ifS, capsS, boundS, strLen, minS, maxS, pickS, plainS, oneS, onesS, cellsS, ev, evs, getS, ofVal, takeN, takeAt, layN, nthS, setN, snoc, lenN, unw, memN, trimS, TE.sv, argS, cxOf, lays, ↓reduceIte, reduceCtorEq, Value.oneCell', Nat.reduceEqDiff, Nat.reduceAdd, Nat.reduceLT, Nat.reduceBEq, Nat.reduceSub, Nat.reduceLeDiff, e00, e01, e02, e03, e04, e05, e06, e07, e08, e09, e10, e11, e12, e13, e14, e15, e16, e17, e18, e19, e20, e21, e22, e23, e24, e25, e26, e27, e28, e29, e30, e31, e32, e33, e34, cE, cOE, hcs, hap, killE, deadOf, rwE, cD, cO, consD, gdS, eqB, newC, mkV, storeC, firstN, snocAll, appAll, dropN, repN, putSl, slAt, allL, lvC, softC, ckD, ckO, hcallC, wfC, wfL, wfE, wfV, hP, hk, res7, kp7, lwC, rowKeyB, rowText, hkl, hkey, s0', s1', hnr])
    exact fin _
  | false => exact absurd ⟨hkey, s0, s1, hnr⟩ all
end Go.Proofs.YtlbbldcfkalhlaaGreatDoor
