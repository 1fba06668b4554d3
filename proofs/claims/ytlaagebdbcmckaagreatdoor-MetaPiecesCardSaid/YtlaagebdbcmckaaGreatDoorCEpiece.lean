/- MetaPieces, walked. Printed by gen_epiece.py. -/
import Derived.Test.YtlaagebdbcmckaaGreatDoorCEshown
import Derived.Test.YtlaagebdbcmckaaGreatDoorCEsame
import Derived.Test.YtlaagebdbcmckaaGreatDoorBC
namespace Go.Proofs.YtlaagebdbcmckaaGreatDoor
set_option linter.unusedSimpArgs false
set_option linter.unusedVariables false
set_option linter.unusedSimpArgs false
set_option linter.unusedVariables false
set_option maxHeartbeats 8000000
open Go.RowKit
set_option maxRecDepth 100000

def piC (r : Mq) : Ctr := fun f en xs => match f with
  | 10 => (match xs with
    | [] => some (True, .c (.b true))
    | _ => none)
  | 13 => rowSame r en xs
  | _ => none
theorem piC_ok {C : Cx} {r : Mq} (hP : C.P = Tryz.prog) (hE : ∀ w, Upd C.S C.w0 w → EnvT w) : CtrOk C (piC r) := by
  intro f en xs p v h hp ρ w hup hHp hHo hinj hwf
  unfold piC at h
  split at h
  · rw [hP]
    refine ⟨fun args w => Tryz.call10 args w, ?_⟩
    split at h <;> simp only [Option.some.injEq, Prod.mk.injEq, reduceCtorEq] at h
    obtain ⟨_, rfl⟩ := h
    exact ⟨trivial, shownM_w w (hE w hup)⟩
  · rw [hP]; exact ⟨fun args w => Tryz.call13 args w, rowSame_ok h hp hHp hHo⟩
  · cases h
theorem pieces_sp (l : List UInt8) (cut : Int) (hl0 : l.length ≤ 9223372036854775807) (hl : l.length ≤ 100000) (c0 : 0 ≤ cut) (cn : -9223372036854775808 ≤ cut) (cm : cut ≤ 9223372036854775807) (w : World) (hE0 : EnvT w) :
    Calls Tryz.prog 5 #[.string ⟨l.toArray⟩, .int .i64 cut] w fun e w' => e = .returned (.bool true) ∧ Below w.heap.size w w' := by
  refine calls_of_Run Tryz.func5 rfl kp5 (S := Non) (ρ := fun _ => reOf 0) (en := []) [.c (.s l), .c (.i .i64 cut)] Tryz.ntmps5 (At.nil _ _ _) (by simp [SV.wf, SC.wf]) (by simp) ?_
  intro C hC hP hk
  have hE : ∀ w', Upd C.S C.w0 w' → EnvT w' := fun w' hu => by rw [hC] at hu; exact hE0.below hu.to_below
  obtain ⟨n, hn⟩ : ∃ n, (l).length = n := ⟨_, rfl⟩
  have hnb : n ≤ 100000 := by rw [← hn]; exact hl
  obtain ⟨v, hv⟩ : ∃ v, cut = v := ⟨_, rfl⟩
  have v0 : 0 ≤ v := by omega
  obtain ⟨k, hk0⟩ : ∃ k : Nat, (v % ((n : Int) + 1)) = (k : Int) := ⟨(v % ((n : Int) + 1)).toNat, by have := Int.emod_nonneg v (show (n : Int) + 1 ≠ 0 by omega); omega⟩
  have hkl : k ≤ n := by have := Int.emod_lt_of_pos v (show 0 < (n : Int) + 1 by omega); omega
  have hkm : v.tmod ((n : Int) + 1) = (k : Int) := by rw [Int.tmod_eq_emod_of_nonneg v0]; exact hk0
  obtain ⟨⟨r, L⟩, hx⟩ : ∃ x, mParse ((l).take k) = x := ⟨_, rfl⟩
  have hctr := piC_ok (r := r) hP hE
  have hn0 : C.n0 = 0 := by rw [hC]; rfl
  have fin : ∀ en, Fin C res5 (.c (.b true)) en := fun en => Fin_ro (v := .c (.b true)) hC hres5 rfl trivial
  have g1 : decide (100000 < ((l.length : Nat) : Int)) = false := decide_eq_false (by omega)
  have g2 : decide (cut < 0) = false := decide_eq_false (by omega)
  have w1 : IntKind.i64.wrap ((n : Int) + 1) = (n : Int) + 1 := by rw [IntKind.wrap_i64]; omega
  have w2 : IntKind.i64.wrap (k : Int) = (k : Int) := by rw [IntKind.wrap_i64]; omega
  subst hv
  rw [hn] at g1
  (refine VT_ok hctr (rs := res5) true 300 _ _ _ ?_; simp (config := { maxSteps := 1000000 }) only [VT, f00, f01, opG_t, opG_f, putG_t, putG_f, VC, appL, repZ, mkFs, newSl, resS, teS, resV, opK, putK, storeK, softS, eqC, eqCs, callS, moveS, loadS, nilS, binV, binS, unS, convS, faS, fldS, iaS, ixS, slS, lenS, buildS, fillS, extS, ifS, capsS, boundS, strLen, minS, maxS, pickS, plainS, oneS, onesS, cellsS, ev, evs, getS, ofVal, takeN, takeAt, layN, nthS, setN, snoc, lenN, unw, memN, trimS, TE.sv, argS, cxOf, lays, ↓reduceIte, reduceCtorEq, Value.oneCell', Nat.reduceEqDiff, Nat.reduceAdd, Nat.reduceLT, Nat.reduceBEq, Nat.reduceSub, Nat.reduceLeDiff, e00, e01, e02, e03, e04, e05, e06, e07, e08, e09, e10, e11, e12, e13, e14, e15, e16, e17, e18, e19, e20, e21, e22, e23, e24, e25, e26, e27, e28, e29, e30, e31, e32, e33, e34, cE, cOE, hcs, hap, killE, deadOf, rwE, cD, cO, consD, gdS, eqB, newC, mkV, storeC, firstN, snocAll, appAll, dropN, repN, putSl, slAt, allL, lvC, softC, ckD, ckO, hcallC, wfC, wfL, wfE, wfV, hP, hk, res5, kp5, piC, g1, g2, w1, hkm, w2, hn])
  repeat (refine ⟨by omega, ?_⟩)
  refine Run_mparse ((l).take k) hx (by rw [List.length_take]; omega) hP hE (by rw [hn0]; exact Nat.zero_le _) (by simp [evs, ev, getS]) (by simp) ?_
  cases hk1 : (r.kind == 0) with
  | true =>
    have hL : L = 0 := by
      have h := mparse_none (a := (l).take k) (by rw [hx]; simpa using hk1)
      rw [hx] at h; exact h
    subst hL
    (refine VT_ok hctr (rs := res5) true 300 _ _ _ ?_; simp (config := { maxSteps := 1000000 }) only [VT, f00, f01, opG_t, opG_f, putG_t, putG_f, VC, appL, repZ, mkFs, newSl, resS, teS, resV, opK, putK, storeK, softS, eqC, eqCs, callS, moveS, loadS, nilS, binV, binS, unS, convS, faS, fldS, iaS, ixS, slS, lenS, buildS, fillS, extS, ifS, capsS, boundS, strLen, minS, maxS, pickS, plainS, oneS, onesS, cellsS, ev, evs, getS, ofVal, takeN, takeAt, layN, nthS, setN, snoc, lenN, unw, memN, trimS, TE.sv, argS, cxOf, lays, ↓reduceIte, reduceCtorEq, Value.oneCell', Nat.reduceEqDiff, Nat.reduceAdd, Nat.reduceLT, Nat.reduceBEq, Nat.reduceSub, Nat.reduceLeDiff, e00, e01, e02, e03, e04, e05, e06, e07, e08, e09, e10, e11, e12, e13, e14, e15, e16, e17, e18, e19, e20, e21, e22, e23, e24, e25, e26, e27, e28, e29, e30, e31, e32, e33, e34, cE, cOE, hcs, hap, killE, deadOf, rwE, cD, cO, consD, gdS, eqB, newC, mkV, storeC, firstN, snocAll, appAll, dropN, repN, putSl, slAt, allL, lvC, softC, ckD, ckO, hcallC, wfC, wfL, wfE, wfV, hP, hk, res5, kp5, piC, pmV, mqZ, mqS, cmE, flE, hk1, beq_self_eq_true])
    exact fin _
  | false =>
    have hkk : r.kind ≠ 0 := by simpa using hk1
    obtain ⟨q1, q2, q3⟩ := mparse_pre (a := (l).take k) (r := (l).drop k) (by rw [hx]; exact hkk)
    rw [List.take_append_drop, hx] at q1
    rw [hx] at q2 q3
    rw [List.length_take] at q3
    (refine VT_ok hctr (rs := res5) true 300 _ _ _ ?_; simp (config := { maxSteps := 1000000 }) only [VT, f00, f01, opG_t, opG_f, putG_t, putG_f, VC, appL, repZ, mkFs, newSl, resS, teS, resV, opK, putK, storeK, softS, eqC, eqCs, callS, moveS, loadS, nilS, binV, binS, unS, convS, faS, fldS, iaS, ixS, slS, lenS, buildS, fillS, extS, ifS, capsS, boundS, strLen, minS, maxS, pickS, plainS, oneS, onesS, cellsS, ev, evs, getS, ofVal, takeN, takeAt, layN, nthS, setN, snoc, lenN, unw, memN, trimS, TE.sv, argS, cxOf, lays, ↓reduceIte, reduceCtorEq, Value.oneCell', Nat.reduceEqDiff, Nat.reduceAdd, Nat.reduceLT, Nat.reduceBEq, Nat.reduceSub, Nat.reduceLeDiff, e00, e01, e02, e03, e04, e05, e06, e07, e08, e09, e10, e11, e12, e13, e14, e15, e16, e17, e18, e19, e20, e21, e22, e23, e24, e25, e26, e27, e28, e29, e30, e31, e32, e33, e34, cE, cOE, hcs, hap, killE, deadOf, rwE, cD, cO, consD, gdS, eqB, newC, mkV, storeC, firstN, snocAll, appAll, dropN, repN, putSl, slAt, allL, lvC, softC, ckD, ckO, hcallC, wfC, wfL, wfE, wfV, hP, hk, res5, kp5, piC, pmV, mqZ, mqS, cmE, flE, hk1])
    refine Run_mparse (l) q1 (by omega) hP hE (by rw [hn0]; exact Nat.zero_le _) (by rfl) (by simp) ?_
    have z1 : (L == L) = true := by simp
    have q4 : L ≤ (k : Int) := by simp only at q3; omega
    have z2 : decide (0 < L) = true := decide_eq_true q2
    have z3 : decide (L ≤ (k : Int)) = true := decide_eq_true q4
    (refine VT_ok hctr (rs := res5) true 300 _ _ _ ?_; simp (config := { maxSteps := 1000000 }) only [VT, f00, f01, opG_t, opG_f, putG_t, putG_f, VC, appL, repZ, mkFs, newSl, resS, teS, resV, opK, putK, storeK, softS, eqC, eqCs, callS, moveS, loadS, nilS, binV, binS, unS, convS, faS, fldS, iaS, ixS, slS, lenS, buildS, fillS, extS, ifS, capsS, boundS, strLen, minS, maxS, pickS, plainS, oneS, onesS, cellsS, ev, evs, getS, ofVal, takeN, takeAt, layN, nthS, setN, snoc, lenN, unw, memN, trimS, TE.sv, argS, cxOf, lays, ↓reduceIte, reduceCtorEq, Value.oneCell', Nat.reduceEqDiff, Nat.reduceAdd, Nat.reduceLT, Nat.reduceBEq, Nat.reduceSub, Nat.reduceLeDiff, e00, e01, e02, e03, e04, e05, e06, e07, e08, e09, e10, e11, e12, e13, e14, e15, e16, e17, e18, e19, e20, e21, e22, e23, e24, e25, e26, e27, e28, e29, e30, e31, e32, e33, e34, cE, cOE, hcs, hap, killE, deadOf, rwE, cD, cO, consD, gdS, eqB, newC, mkV, storeC, firstN, snocAll, appAll, dropN, repN, putSl, slAt, allL, lvC, softC, ckD, ckO, hcallC, wfC, wfL, wfE, wfV, hP, hk, res5, kp5, piC, rowSame, pmV, mqZ, mqS, cmE, flE, z1, z2, z3])
    exact ⟨⟨0, 3, rfl, rfl, rfl, rfl, rfl, rfl⟩, fin _⟩
theorem pieces_sn (l : List UInt8) (cut : Int) (hl0 : l.length ≤ 9223372036854775807) (hl : l.length ≤ 100000) (c0 : cut < 0) (cn : -9223372036854775808 ≤ cut) (cm : cut ≤ 9223372036854775807) (w : World) (hE0 : EnvT w) :
    Calls Tryz.prog 5 #[.string ⟨l.toArray⟩, .int .i64 cut] w fun e w' => e = .returned (.bool true) ∧ Below w.heap.size w w' := by
  refine calls_of_Run Tryz.func5 rfl kp5 (S := Non) (ρ := fun _ => reOf 0) (en := []) [.c (.s l), .c (.i .i64 cut)] Tryz.ntmps5 (At.nil _ _ _) (by simp [SV.wf, SC.wf]) (by simp) ?_
  intro C hC hP hk
  have hE : ∀ w', Upd C.S C.w0 w' → EnvT w' := fun w' hu => by rw [hC] at hu; exact hE0.below hu.to_below
  obtain ⟨n, hn⟩ : ∃ n, (l).length = n := ⟨_, rfl⟩
  have hnb : n ≤ 100000 := by rw [← hn]; exact hl
  obtain ⟨v, hv⟩ : ∃ v, (-(cut + 1)) = v := ⟨_, rfl⟩
  have v0 : 0 ≤ v := by omega
  obtain ⟨k, hk0⟩ : ∃ k : Nat, (v % ((n : Int) + 1)) = (k : Int) := ⟨(v % ((n : Int) + 1)).toNat, by have := Int.emod_nonneg v (show (n : Int) + 1 ≠ 0 by omega); omega⟩
  have hkl : k ≤ n := by have := Int.emod_lt_of_pos v (show 0 < (n : Int) + 1 by omega); omega
  have hkm : v.tmod ((n : Int) + 1) = (k : Int) := by rw [Int.tmod_eq_emod_of_nonneg v0]; exact hk0
  obtain ⟨⟨r, L⟩, hx⟩ : ∃ x, mParse ((l).take k) = x := ⟨_, rfl⟩
  have hctr := piC_ok (r := r) hP hE
  have hn0 : C.n0 = 0 := by rw [hC]; rfl
  have fin : ∀ en, Fin C res5 (.c (.b true)) en := fun en => Fin_ro (v := .c (.b true)) hC hres5 rfl trivial
  have g1 : decide (100000 < ((l.length : Nat) : Int)) = false := decide_eq_false (by omega)
  have g2 : decide (cut < 0) = true := decide_eq_true (by omega)
  have w1 : IntKind.i64.wrap ((n : Int) + 1) = (n : Int) + 1 := by rw [IntKind.wrap_i64]; omega
  have w2 : IntKind.i64.wrap (k : Int) = (k : Int) := by rw [IntKind.wrap_i64]; omega
  have w3 : IntKind.i64.wrap (cut + 1) = cut + 1 := by rw [IntKind.wrap_i64]; omega
  have w4 : IntKind.i64.wrap (0 - (cut + 1)) = v := by rw [IntKind.wrap_i64]; omega
  rw [hn] at g1
  (refine VT_ok hctr (rs := res5) true 300 _ _ _ ?_; simp (config := { maxSteps := 1000000 }) only [VT, f00, f01, opG_t, opG_f, putG_t, putG_f, VC, appL, repZ, mkFs, newSl, resS, teS, resV, opK, putK, storeK, softS, eqC, eqCs, callS, moveS, loadS, nilS, binV, binS, unS, convS, faS, fldS, iaS, ixS, slS, lenS, buildS, fillS, extS, ifS, capsS, boundS, strLen, minS, maxS, pickS, plainS, oneS, onesS, cellsS, ev, evs, getS, ofVal, takeN, takeAt, layN, nthS, setN, snoc, lenN, unw, memN, trimS, TE.sv, argS, cxOf, lays, ↓reduceIte, reduceCtorEq, Value.oneCell', Nat.reduceEqDiff, Nat.reduceAdd, Nat.reduceLT, Nat.reduceBEq, Nat.reduceSub, Nat.reduceLeDiff, e00, e01, e02, e03, e04, e05, e06, e07, e08, e09, e10, e11, e12, e13, e14, e15, e16, e17, e18, e19, e20, e21, e22, e23, e24, e25, e26, e27, e28, e29, e30, e31, e32, e33, e34, cE, cOE, hcs, hap, killE, deadOf, rwE, cD, cO, consD, gdS, eqB, newC, mkV, storeC, firstN, snocAll, appAll, dropN, repN, putSl, slAt, allL, lvC, softC, ckD, ckO, hcallC, wfC, wfL, wfE, wfV, hP, hk, res5, kp5, piC, g1, g2, w1, hkm, w2, hn, w3, w4])
  repeat (refine ⟨by omega, ?_⟩)
  refine Run_mparse ((l).take k) hx (by rw [List.length_take]; omega) hP hE (by rw [hn0]; exact Nat.zero_le _) (by simp [evs, ev, getS]) (by simp) ?_
  cases hk1 : (r.kind == 0) with
  | true =>
    have hL : L = 0 := by
      have h := mparse_none (a := (l).take k) (by rw [hx]; simpa using hk1)
      rw [hx] at h; exact h
    subst hL
    (refine VT_ok hctr (rs := res5) true 300 _ _ _ ?_; simp (config := { maxSteps := 1000000 }) only [VT, f00, f01, opG_t, opG_f, putG_t, putG_f, VC, appL, repZ, mkFs, newSl, resS, teS, resV, opK, putK, storeK, softS, eqC, eqCs, callS, moveS, loadS, nilS, binV, binS, unS, convS, faS, fldS, iaS, ixS, slS, lenS, buildS, fillS, extS, ifS, capsS, boundS, strLen, minS, maxS, pickS, plainS, oneS, onesS, cellsS, ev, evs, getS, ofVal, takeN, takeAt, layN, nthS, setN, snoc, lenN, unw, memN, trimS, TE.sv, argS, cxOf, lays, ↓reduceIte, reduceCtorEq, Value.oneCell', Nat.reduceEqDiff, Nat.reduceAdd, Nat.reduceLT, Nat.reduceBEq, Nat.reduceSub, Nat.reduceLeDiff, e00, e01, e02, e03, e04, e05, e06, e07, e08, e09, e10, e11, e12, e13, e14, e15, e16, e17, e18, e19, e20, e21, e22, e23, e24, e25, e26, e27, e28, e29, e30, e31, e32, e33, e34, cE, cOE, hcs, hap, killE, deadOf, rwE, cD, cO, consD, gdS, eqB, newC, mkV, storeC, firstN, snocAll, appAll, dropN, repN, putSl, slAt, allL, lvC, softC, ckD, ckO, hcallC, wfC, wfL, wfE, wfV, hP, hk, res5, kp5, piC, pmV, mqZ, mqS, cmE, flE, hk1, beq_self_eq_true])
    exact fin _
  | false =>
    have hkk : r.kind ≠ 0 := by simpa using hk1
    obtain ⟨q1, q2, q3⟩ := mparse_pre (a := (l).take k) (r := (l).drop k) (by rw [hx]; exact hkk)
    rw [List.take_append_drop, hx] at q1
    rw [hx] at q2 q3
    rw [List.length_take] at q3
    (refine VT_ok hctr (rs := res5) true 300 _ _ _ ?_; simp (config := { maxSteps := 1000000 }) only [VT, f00, f01, opG_t, opG_f, putG_t, putG_f, VC, appL, repZ, mkFs, newSl, resS, teS, resV, opK, putK, storeK, softS, eqC, eqCs, callS, moveS, loadS, nilS, binV, binS, unS, convS, faS, fldS, iaS, ixS, slS, lenS, buildS, fillS, extS, ifS, capsS, boundS, strLen, minS, maxS, pickS, plainS, oneS, onesS, cellsS, ev, evs, getS, ofVal, takeN, takeAt, layN, nthS, setN, snoc, lenN, unw, memN, trimS, TE.sv, argS, cxOf, lays, ↓reduceIte, reduceCtorEq, Value.oneCell', Nat.reduceEqDiff, Nat.reduceAdd, Nat.reduceLT, Nat.reduceBEq, Nat.reduceSub, Nat.reduceLeDiff, e00, e01, e02, e03, e04, e05, e06, e07, e08, e09, e10, e11, e12, e13, e14, e15, e16, e17, e18, e19, e20, e21, e22, e23, e24, e25, e26, e27, e28, e29, e30, e31, e32, e33, e34, cE, cOE, hcs, hap, killE, deadOf, rwE, cD, cO, consD, gdS, eqB, newC, mkV, storeC, firstN, snocAll, appAll, dropN, repN, putSl, slAt, allL, lvC, softC, ckD, ckO, hcallC, wfC, wfL, wfE, wfV, hP, hk, res5, kp5, piC, pmV, mqZ, mqS, cmE, flE, hk1])
    refine Run_mparse (l) q1 (by omega) hP hE (by rw [hn0]; exact Nat.zero_le _) (by rfl) (by simp) ?_
    have z1 : (L == L) = true := by simp
    have q4 : L ≤ (k : Int) := by simp only at q3; omega
    have z2 : decide (0 < L) = true := decide_eq_true q2
    have z3 : decide (L ≤ (k : Int)) = true := decide_eq_true q4
    (refine VT_ok hctr (rs := res5) true 300 _ _ _ ?_; simp (config := { maxSteps := 1000000 }) only [VT, f00, f01, opG_t, opG_f, putG_t, putG_f, VC, appL, repZ, mkFs, newSl, resS, teS, resV, opK, putK, storeK, softS, eqC, eqCs, callS, moveS, loadS, nilS, binV, binS, unS, convS, faS, fldS, iaS, ixS, slS, lenS, buildS, fillS, extS, ifS, capsS, boundS, strLen, minS, maxS, pickS, plainS, oneS, onesS, cellsS, ev, evs, getS, ofVal, takeN, takeAt, layN, nthS, setN, snoc, lenN, unw, memN, trimS, TE.sv, argS, cxOf, lays, ↓reduceIte, reduceCtorEq, Value.oneCell', Nat.reduceEqDiff, Nat.reduceAdd, Nat.reduceLT, Nat.reduceBEq, Nat.reduceSub, Nat.reduceLeDiff, e00, e01, e02, e03, e04, e05, e06, e07, e08, e09, e10, e11, e12, e13, e14, e15, e16, e17, e18, e19, e20, e21, e22, e23, e24, e25, e26, e27, e28, e29, e30, e31, e32, e33, e34, cE, cOE, hcs, hap, killE, deadOf, rwE, cD, cO, consD, gdS, eqB, newC, mkV, storeC, firstN, snocAll, appAll, dropN, repN, putSl, slAt, allL, lvC, softC, ckD, ckO, hcallC, wfC, wfL, wfE, wfV, hP, hk, res5, kp5, piC, rowSame, pmV, mqZ, mqS, cmE, flE, z1, z2, z3])
    exact ⟨⟨0, 3, rfl, rfl, rfl, rfl, rfl, rfl⟩, fin _⟩
theorem pieces_bp (l : List UInt8) (cut : Int) (hl0 : l.length ≤ 9223372036854775807) (hl : ¬ l.length ≤ 100000) (c0 : 0 ≤ cut) (cn : -9223372036854775808 ≤ cut) (cm : cut ≤ 9223372036854775807) (w : World) (hE0 : EnvT w) :
    Calls Tryz.prog 5 #[.string ⟨l.toArray⟩, .int .i64 cut] w fun e w' => e = .returned (.bool true) ∧ Below w.heap.size w w' := by
  refine calls_of_Run Tryz.func5 rfl kp5 (S := Non) (ρ := fun _ => reOf 0) (en := []) [.c (.s l), .c (.i .i64 cut)] Tryz.ntmps5 (At.nil _ _ _) (by simp [SV.wf, SC.wf]) (by simp) ?_
  intro C hC hP hk
  have hE : ∀ w', Upd C.S C.w0 w' → EnvT w' := fun w' hu => by rw [hC] at hu; exact hE0.below hu.to_below
  obtain ⟨n, hn⟩ : ∃ n, (l.take 100000).length = n := ⟨_, rfl⟩
  have hnb : n ≤ 100000 := by rw [← hn]; rw [List.length_take]; omega
  obtain ⟨v, hv⟩ : ∃ v, cut = v := ⟨_, rfl⟩
  have v0 : 0 ≤ v := by omega
  obtain ⟨k, hk0⟩ : ∃ k : Nat, (v % ((n : Int) + 1)) = (k : Int) := ⟨(v % ((n : Int) + 1)).toNat, by have := Int.emod_nonneg v (show (n : Int) + 1 ≠ 0 by omega); omega⟩
  have hkl : k ≤ n := by have := Int.emod_lt_of_pos v (show 0 < (n : Int) + 1 by omega); omega
  have hkm : v.tmod ((n : Int) + 1) = (k : Int) := by rw [Int.tmod_eq_emod_of_nonneg v0]; exact hk0
  obtain ⟨⟨r, L⟩, hx⟩ : ∃ x, mParse ((l.take 100000).take k) = x := ⟨_, rfl⟩
  have hctr := piC_ok (r := r) hP hE
  have hn0 : C.n0 = 0 := by rw [hC]; rfl
  have fin : ∀ en, Fin C res5 (.c (.b true)) en := fun en => Fin_ro (v := .c (.b true)) hC hres5 rfl trivial
  have g1 : decide (100000 < ((l.length : Nat) : Int)) = true := decide_eq_true (by omega)
  have g2 : decide (cut < 0) = false := decide_eq_false (by omega)
  have w1 : IntKind.i64.wrap ((n : Int) + 1) = (n : Int) + 1 := by rw [IntKind.wrap_i64]; omega
  have w2 : IntKind.i64.wrap (k : Int) = (k : Int) := by rw [IntKind.wrap_i64]; omega
  subst hv
  have eb : List.drop (Int.toNat 0) (List.take (Int.toNat 100000) l) = l.take 100000 := rfl
  (refine VT_ok hctr (rs := res5) true 300 _ _ _ ?_; simp (config := { maxSteps := 1000000 }) only [VT, f00, f01, opG_t, opG_f, putG_t, putG_f, VC, appL, repZ, mkFs, newSl, resS, teS, resV, opK, putK, storeK, softS, eqC, eqCs, callS, moveS, loadS, nilS, binV, binS, unS, convS, faS, fldS, iaS, ixS, slS, lenS, buildS, fillS, extS, ifS, capsS, boundS, strLen, minS, maxS, pickS, plainS, oneS, onesS, cellsS, ev, evs, getS, ofVal, takeN, takeAt, layN, nthS, setN, snoc, lenN, unw, memN, trimS, TE.sv, argS, cxOf, lays, ↓reduceIte, reduceCtorEq, Value.oneCell', Nat.reduceEqDiff, Nat.reduceAdd, Nat.reduceLT, Nat.reduceBEq, Nat.reduceSub, Nat.reduceLeDiff, e00, e01, e02, e03, e04, e05, e06, e07, e08, e09, e10, e11, e12, e13, e14, e15, e16, e17, e18, e19, e20, e21, e22, e23, e24, e25, e26, e27, e28, e29, e30, e31, e32, e33, e34, cE, cOE, hcs, hap, killE, deadOf, rwE, cD, cO, consD, gdS, eqB, newC, mkV, storeC, firstN, snocAll, appAll, dropN, repN, putSl, slAt, allL, lvC, softC, ckD, ckO, hcallC, wfC, wfL, wfE, wfV, hP, hk, res5, kp5, piC, g1, g2, w1, hkm, w2, hn, eb])
  repeat (refine ⟨by omega, ?_⟩)
  refine Run_mparse ((l.take 100000).take k) hx (by rw [List.length_take]; omega) hP hE (by rw [hn0]; exact Nat.zero_le _) (by simp [evs, ev, getS]) (by simp) ?_
  cases hk1 : (r.kind == 0) with
  | true =>
    have hL : L = 0 := by
      have h := mparse_none (a := (l.take 100000).take k) (by rw [hx]; simpa using hk1)
      rw [hx] at h; exact h
    subst hL
    (refine VT_ok hctr (rs := res5) true 300 _ _ _ ?_; simp (config := { maxSteps := 1000000 }) only [VT, f00, f01, opG_t, opG_f, putG_t, putG_f, VC, appL, repZ, mkFs, newSl, resS, teS, resV, opK, putK, storeK, softS, eqC, eqCs, callS, moveS, loadS, nilS, binV, binS, unS, convS, faS, fldS, iaS, ixS, slS, lenS, buildS, fillS, extS, ifS, capsS, boundS, strLen, minS, maxS, pickS, plainS, oneS, onesS, cellsS, ev, evs, getS, ofVal, takeN, takeAt, layN, nthS, setN, snoc, lenN, unw, memN, trimS, TE.sv, argS, cxOf, lays, ↓reduceIte, reduceCtorEq, Value.oneCell', Nat.reduceEqDiff, Nat.reduceAdd, Nat.reduceLT, Nat.reduceBEq, Nat.reduceSub, Nat.reduceLeDiff, e00, e01, e02, e03, e04, e05, e06, e07, e08, e09, e10, e11, e12, e13, e14, e15, e16, e17, e18, e19, e20, e21, e22, e23, e24, e25, e26, e27, e28, e29, e30, e31, e32, e33, e34, cE, cOE, hcs, hap, killE, deadOf, rwE, cD, cO, consD, gdS, eqB, newC, mkV, storeC, firstN, snocAll, appAll, dropN, repN, putSl, slAt, allL, lvC, softC, ckD, ckO, hcallC, wfC, wfL, wfE, wfV, hP, hk, res5, kp5, piC, pmV, mqZ, mqS, cmE, flE, hk1, beq_self_eq_true])
    exact fin _
  | false =>
    have hkk : r.kind ≠ 0 := by simpa using hk1
    obtain ⟨q1, q2, q3⟩ := mparse_pre (a := (l.take 100000).take k) (r := (l.take 100000).drop k) (by rw [hx]; exact hkk)
    rw [List.take_append_drop, hx] at q1
    rw [hx] at q2 q3
    rw [List.length_take] at q3
    (refine VT_ok hctr (rs := res5) true 300 _ _ _ ?_; simp (config := { maxSteps := 1000000 }) only [VT, f00, f01, opG_t, opG_f, putG_t, putG_f, VC, appL, repZ, mkFs, newSl, resS, teS, resV, opK, putK, storeK, softS, eqC, eqCs, callS, moveS, loadS, nilS, binV, binS, unS, convS, faS, fldS, iaS, ixS, slS, lenS, buildS, fillS, extS, ifS, capsS, boundS, strLen, minS, maxS, pickS, plainS, oneS, onesS, cellsS, ev, evs, getS, ofVal, takeN, takeAt, layN, nthS, setN, snoc, lenN, unw, memN, trimS, TE.sv, argS, cxOf, lays, ↓reduceIte, reduceCtorEq, Value.oneCell', Nat.reduceEqDiff, Nat.reduceAdd, Nat.reduceLT, Nat.reduceBEq, Nat.reduceSub, Nat.reduceLeDiff, e00, e01, e02, e03, e04, e05, e06, e07, e08, e09, e10, e11, e12, e13, e14, e15, e16, e17, e18, e19, e20, e21, e22, e23, e24, e25, e26, e27, e28, e29, e30, e31, e32, e33, e34, cE, cOE, hcs, hap, killE, deadOf, rwE, cD, cO, consD, gdS, eqB, newC, mkV, storeC, firstN, snocAll, appAll, dropN, repN, putSl, slAt, allL, lvC, softC, ckD, ckO, hcallC, wfC, wfL, wfE, wfV, hP, hk, res5, kp5, piC, pmV, mqZ, mqS, cmE, flE, hk1])
    refine Run_mparse (l.take 100000) q1 (by omega) hP hE (by rw [hn0]; exact Nat.zero_le _) (by rfl) (by simp) ?_
    have z1 : (L == L) = true := by simp
    have q4 : L ≤ (k : Int) := by simp only at q3; omega
    have z2 : decide (0 < L) = true := decide_eq_true q2
    have z3 : decide (L ≤ (k : Int)) = true := decide_eq_true q4
    (refine VT_ok hctr (rs := res5) true 300 _ _ _ ?_; simp (config := { maxSteps := 1000000 }) only [VT, f00, f01, opG_t, opG_f, putG_t, putG_f, VC, appL, repZ, mkFs, newSl, resS, teS, resV, opK, putK, storeK, softS, eqC, eqCs, callS, moveS, loadS, nilS, binV, binS, unS, convS, faS, fldS, iaS, ixS, slS, lenS, buildS, fillS, extS, ifS, capsS, boundS, strLen, minS, maxS, pickS, plainS, oneS, onesS, cellsS, ev, evs, getS, ofVal, takeN, takeAt, layN, nthS, setN, snoc, lenN, unw, memN, trimS, TE.sv, argS, cxOf, lays, ↓reduceIte, reduceCtorEq, Value.oneCell', Nat.reduceEqDiff, Nat.reduceAdd, Nat.reduceLT, Nat.reduceBEq, Nat.reduceSub, Nat.reduceLeDiff, e00, e01, e02, e03, e04, e05, e06, e07, e08, e09, e10, e11, e12, e13, e14, e15, e16, e17, e18, e19, e20, e21, e22, e23, e24, e25, e26, e27, e28, e29, e30, e31, e32, e33, e34, cE, cOE, hcs, hap, killE, deadOf, rwE, cD, cO, consD, gdS, eqB, newC, mkV, storeC, firstN, snocAll, appAll, dropN, repN, putSl, slAt, allL, lvC, softC, ckD, ckO, hcallC, wfC, wfL, wfE, wfV, hP, hk, res5, kp5, piC, rowSame, pmV, mqZ, mqS, cmE, flE, z1, z2, z3])
    exact ⟨⟨0, 3, rfl, rfl, rfl, rfl, rfl, rfl⟩, fin _⟩
theorem pieces_bn (l : List UInt8) (cut : Int) (hl0 : l.length ≤ 9223372036854775807) (hl : ¬ l.length ≤ 100000) (c0 : cut < 0) (cn : -9223372036854775808 ≤ cut) (cm : cut ≤ 9223372036854775807) (w : World) (hE0 : EnvT w) :
    Calls Tryz.prog 5 #[.string ⟨l.toArray⟩, .int .i64 cut] w fun e w' => e = .returned (.bool true) ∧ Below w.heap.size w w' := by
  refine calls_of_Run Tryz.func5 rfl kp5 (S := Non) (ρ := fun _ => reOf 0) (en := []) [.c (.s l), .c (.i .i64 cut)] Tryz.ntmps5 (At.nil _ _ _) (by simp [SV.wf, SC.wf]) (by simp) ?_
  intro C hC hP hk
  have hE : ∀ w', Upd C.S C.w0 w' → EnvT w' := fun w' hu => by rw [hC] at hu; exact hE0.below hu.to_below
  obtain ⟨n, hn⟩ : ∃ n, (l.take 100000).length = n := ⟨_, rfl⟩
  have hnb : n ≤ 100000 := by rw [← hn]; rw [List.length_take]; omega
  obtain ⟨v, hv⟩ : ∃ v, (-(cut + 1)) = v := ⟨_, rfl⟩
  have v0 : 0 ≤ v := by omega
  obtain ⟨k, hk0⟩ : ∃ k : Nat, (v % ((n : Int) + 1)) = (k : Int) := ⟨(v % ((n : Int) + 1)).toNat, by have := Int.emod_nonneg v (show (n : Int) + 1 ≠ 0 by omega); omega⟩
  have hkl : k ≤ n := by have := Int.emod_lt_of_pos v (show 0 < (n : Int) + 1 by omega); omega
  have hkm : v.tmod ((n : Int) + 1) = (k : Int) := by rw [Int.tmod_eq_emod_of_nonneg v0]; exact hk0
  obtain ⟨⟨r, L⟩, hx⟩ : ∃ x, mParse ((l.take 100000).take k) = x := ⟨_, rfl⟩
  have hctr := piC_ok (r := r) hP hE
  have hn0 : C.n0 = 0 := by rw [hC]; rfl
  have fin : ∀ en, Fin C res5 (.c (.b true)) en := fun en => Fin_ro (v := .c (.b true)) hC hres5 rfl trivial
  have g1 : decide (100000 < ((l.length : Nat) : Int)) = true := decide_eq_true (by omega)
  have g2 : decide (cut < 0) = true := decide_eq_true (by omega)
  have w1 : IntKind.i64.wrap ((n : Int) + 1) = (n : Int) + 1 := by rw [IntKind.wrap_i64]; omega
  have w2 : IntKind.i64.wrap (k : Int) = (k : Int) := by rw [IntKind.wrap_i64]; omega
  have w3 : IntKind.i64.wrap (cut + 1) = cut + 1 := by rw [IntKind.wrap_i64]; omega
  have w4 : IntKind.i64.wrap (0 - (cut + 1)) = v := by rw [IntKind.wrap_i64]; omega
  have eb : List.drop (Int.toNat 0) (List.take (Int.toNat 100000) l) = l.take 100000 := rfl
  (refine VT_ok hctr (rs := res5) true 300 _ _ _ ?_; simp (config := { maxSteps := 1000000 }) only [VT, f00, f01, opG_t, opG_f, putG_t, putG_f, VC, appL, repZ, mkFs, newSl, resS, teS, resV, opK, putK, storeK, softS, eqC, eqCs, callS, moveS, loadS, nilS, binV, binS, unS, convS, faS, fldS, iaS, ixS, slS, lenS, buildS, fillS, extS, ifS, capsS, boundS, strLen, minS, maxS, pickS, plainS, oneS, onesS, cellsS, ev, evs, getS, ofVal, takeN, takeAt, layN, nthS, setN, snoc, lenN, unw, memN, trimS, TE.sv, argS, cxOf, lays, ↓reduceIte, reduceCtorEq, Value.oneCell', Nat.reduceEqDiff, Nat.reduceAdd, Nat.reduceLT, Nat.reduceBEq, Nat.reduceSub, Nat.reduceLeDiff, e00, e01, e02, e03, e04, e05, e06, e07, e08, e09, e10, e11, e12, e13, e14, e15, e16, e17, e18, e19, e20, e21, e22, e23, e24, e25, e26, e27, e28, e29, e30, e31, e32, e33, e34, cE, cOE, hcs, hap, killE, deadOf, rwE, cD, cO, consD, gdS, eqB, newC, mkV, storeC, firstN, snocAll, appAll, dropN, repN, putSl, slAt, allL, lvC, softC, ckD, ckO, hcallC, wfC, wfL, wfE, wfV, hP, hk, res5, kp5, piC, g1, g2, w1, hkm, w2, hn, w3, w4, eb])
  repeat (refine ⟨by omega, ?_⟩)
  refine Run_mparse ((l.take 100000).take k) hx (by rw [List.length_take]; omega) hP hE (by rw [hn0]; exact Nat.zero_le _) (by simp [evs, ev, getS]) (by simp) ?_
  cases hk1 : (r.kind == 0) with
  | true =>
    have hL : L = 0 := by
      have h := mparse_none (a := (l.take 100000).take k) (by rw [hx]; simpa using hk1)
      rw [hx] at h; exact h
    subst hL
    (refine VT_ok hctr (rs := res5) true 300 _ _ _ ?_; simp (config := { maxSteps := 1000000 }) only [VT, f00, f01, opG_t, opG_f, putG_t, putG_f, VC, appL, repZ, mkFs, newSl, resS, teS, resV, opK, putK, storeK, softS, eqC, eqCs, callS, moveS, loadS, nilS, binV, binS, unS, convS, faS, fldS, iaS, ixS, slS, lenS, buildS, fillS, extS, ifS, capsS, boundS, strLen, minS, maxS, pickS, plainS, oneS, onesS, cellsS, ev, evs, getS, ofVal, takeN, takeAt, layN, nthS, setN, snoc, lenN, unw, memN, trimS, TE.sv, argS, cxOf, lays, ↓reduceIte, reduceCtorEq, Value.oneCell', Nat.reduceEqDiff, Nat.reduceAdd, Nat.reduceLT, Nat.reduceBEq, Nat.reduceSub, Nat.reduceLeDiff, e00, e01, e02, e03, e04, e05, e06, e07, e08, e09, e10, e11, e12, e13, e14, e15, e16, e17, e18, e19, e20, e21, e22, e23, e24, e25, e26, e27, e28, e29, e30, e31, e32, e33, e34, cE, cOE, hcs, hap, killE, deadOf, rwE, cD, cO, consD, gdS, eqB, newC, mkV, storeC, firstN, snocAll, appAll, dropN, repN, putSl, slAt, allL, lvC, softC, ckD, ckO, hcallC, wfC, wfL, wfE, wfV, hP, hk, res5, kp5, piC, pmV, mqZ, mqS, cmE, flE, hk1, beq_self_eq_true])
    exact fin _
  | false =>
    have hkk : r.kind ≠ 0 := by simpa using hk1
    obtain ⟨q1, q2, q3⟩ := mparse_pre (a := (l.take 100000).take k) (r := (l.take 100000).drop k) (by rw [hx]; exact hkk)
    rw [List.take_append_drop, hx] at q1
    rw [hx] at q2 q3
    rw [List.length_take] at q3
    (refine VT_ok hctr (rs := res5) true 300 _ _ _ ?_; simp (config := { maxSteps := 1000000 }) only [VT, f00, f01, opG_t, opG_f, putG_t, putG_f, VC, appL, repZ, mkFs, newSl, resS, teS, resV, opK, putK, storeK, softS, eqC, eqCs, callS, moveS, loadS, nilS, binV, binS, unS, convS, faS, fldS, iaS, ixS, slS, lenS, buildS, fillS, extS, ifS, capsS, boundS, strLen, minS, maxS, pickS, plainS, oneS, onesS, cellsS, ev, evs, getS, ofVal, takeN, takeAt, layN, nthS, setN, snoc, lenN, unw, memN, trimS, TE.sv, argS, cxOf, lays, ↓reduceIte, reduceCtorEq, Value.oneCell', Nat.reduceEqDiff, Nat.reduceAdd, Nat.reduceLT, Nat.reduceBEq, Nat.reduceSub, Nat.reduceLeDiff, e00, e01, e02, e03, e04, e05, e06, e07, e08, e09, e10, e11, e12, e13, e14, e15, e16, e17, e18, e19, e20, e21, e22, e23, e24, e25, e26, e27, e28, e29, e30, e31, e32, e33, e34, cE, cOE, hcs, hap, killE, deadOf, rwE, cD, cO, consD, gdS, eqB, newC, mkV, storeC, firstN, snocAll, appAll, dropN, repN, putSl, slAt, allL, lvC, softC, ckD, ckO, hcallC, wfC, wfL, wfE, wfV, hP, hk, res5, kp5, piC, pmV, mqZ, mqS, cmE, flE, hk1])
    refine Run_mparse (l.take 100000) q1 (by omega) hP hE (by rw [hn0]; exact Nat.zero_le _) (by rfl) (by simp) ?_
    have z1 : (L == L) = true := by simp
    have q4 : L ≤ (k : Int) := by simp only at q3; omega
    have z2 : decide (0 < L) = true := decide_eq_true q2
    have z3 : decide (L ≤ (k : Int)) = true := decide_eq_true q4
    (refine VT_ok hctr (rs := res5) true 300 _ _ _ ?_; simp (config := { maxSteps := 1000000 }) only [VT, f00, f01, opG_t, opG_f, putG_t, putG_f, VC, appL, repZ, mkFs, newSl, resS, teS, resV, opK, putK, storeK, softS, eqC, eqCs, callS, moveS, loadS, nilS, binV, binS, unS, convS, faS, fldS, iaS, ixS, slS, lenS, buildS, fillS, extS, ifS, capsS, boundS, strLen, minS, maxS, pickS, plainS, oneS, onesS, cellsS, ev, evs, getS, ofVal, takeN, takeAt, layN, nthS, setN, snoc, lenN, unw, memN, trimS, TE.sv, argS, cxOf, lays, ↓reduceIte, reduceCtorEq, Value.oneCell', Nat.reduceEqDiff, Nat.reduceAdd, Nat.reduceLT, Nat.reduceBEq, Nat.reduceSub, Nat.reduceLeDiff, e00, e01, e02, e03, e04, e05, e06, e07, e08, e09, e10, e11, e12, e13, e14, e15, e16, e17, e18, e19, e20, e21, e22, e23, e24, e25, e26, e27, e28, e29, e30, e31, e32, e33, e34, cE, cOE, hcs, hap, killE, deadOf, rwE, cD, cO, consD, gdS, eqB, newC, mkV, storeC, firstN, snocAll, appAll, dropN, repN, putSl, slAt, allL, lvC, softC, ckD, ckO, hcallC, wfC, wfL, wfE, wfV, hP, hk, res5, kp5, piC, rowSame, pmV, mqZ, mqS, cmE, flE, z1, z2, z3])
    exact ⟨⟨0, 3, rfl, rfl, rfl, rfl, rfl, rfl⟩, fin _⟩
theorem pieces_walk (l : List UInt8) (cut : Int) (hl0 : l.length ≤ 9223372036854775807) (cn : -9223372036854775808 ≤ cut) (cm : cut ≤ 9223372036854775807) (w : World) (hE0 : EnvT w) :
    Calls Tryz.prog 5 #[.string ⟨l.toArray⟩, .int .i64 cut] w fun e w' => e = .returned (.bool true) ∧ Below w.heap.size w w' := by
  by_cases hl : l.length ≤ 100000
  · by_cases c0 : 0 ≤ cut
    · exact pieces_sp l cut hl0 hl c0 cn cm w hE0
    · exact pieces_sn l cut hl0 hl (by omega) cn cm w hE0
  · by_cases c0 : 0 ≤ cut
    · exact pieces_bp l cut hl0 hl c0 cn cm w hE0
    · exact pieces_bn l cut hl0 hl (by omega) cn cm w hE0
end Go.Proofs.YtlaagebdbcmckaaGreatDoor
