/- MetaNumbers, walked. Printed by gen_enum.py. -/
import Derived.Test.YtlaagebdbcmckaaGreatDoorCEquiet
import Derived.Test.YtlaagebdbcmckaaGreatDoorCEsame
import Derived.Test.YtlaagebdbcmckaaGreatDoorCMetaNumL
namespace Go.Proofs.YtlaagebdbcmckaaGreatDoor
set_option linter.unusedSimpArgs false
set_option linter.unusedVariables false
set_option linter.unusedSimpArgs false
set_option linter.unusedVariables false
set_option maxHeartbeats 8000000
open Go.RowKit
set_option maxRecDepth 100000

theorem sgn_w (n : Int) (h0 : -1099511627776 ≤ n) (h1 : n ≤ 1099511627776) (w : World) (hE0 : Env w) : Calls Tryz.prog 17 #[.int .i64 n] w fun e w' => e = .returned (.string ⟨(secText n).toArray⟩) ∧ Below w.heap.size w w' := by
  refine calls_of_Run Tryz.func17 rfl kp17 (S := Non) (ρ := fun _ => reOf 0) (en := []) [.c (.i .i64 n)] Tryz.ntmps17 (At.nil _ _ _) (by simp [SV.wf, SC.wf]) (by simp) ?_
  intro C hC hP hk
  have hctr := txC_ok hP (fun w' hu => by rw [hC] at hu; exact hE0.below hu.to_below)
  have fin : ∀ l en, secText n = l → Fin C res17 (.c (.s l)) en := fun l en hl => by subst hl; exact Fin_ro (v := .c (.s (secText n))) hC hres17 rfl trivial
  by_cases hn : n < 0
  · have c0 : decide (n < 0) = true := decide_eq_true hn
    have w1 : IntKind.i64.wrap (0 - n) = -n := by rw [IntWalk.i64_in _ (by omega)]; omega
    have w2 : IntKind.u64.wrap (-n) = -n := by rw [IntKind.wrap_u64]; omega
    have d := dec_le20 (n := (-n).toNat) (by omega)
    have p0 : 0 ≤ -n := by omega
    have p1 : -n < 18446744073709551616 := by omega
    (refine VT_ok hctr (rs := res17) true 300 _ _ _ ?_; simp (config := { maxSteps := 1000000 }) only [VT, f00, f01, opG_t, opG_f, putG_t, putG_f, VC, appL, repZ, mkFs, newSl, resS, teS, resV, opK, putK, storeK, softS, eqC, eqCs, callS, moveS, loadS, nilS, binV, binS, unS, convS, faS, fldS, iaS, ixS, slS, lenS, buildS, fillS, extS, ifS, capsS, boundS, strLen, minS, maxS, pickS, plainS, oneS, onesS, cellsS, ev, evs, getS, ofVal, takeN, takeAt, layN, nthS, setN, snoc, lenN, unw, memN, trimS, TE.sv, argS, cxOf, lays, ↓reduceIte, reduceCtorEq, Value.oneCell', Nat.reduceEqDiff, Nat.reduceAdd, Nat.reduceLT, Nat.reduceBEq, Nat.reduceSub, Nat.reduceLeDiff, e00, e01, e02, e03, e04, e05, e06, e07, e08, e09, e10, e11, e12, e13, e14, e15, e16, e17, e18, e19, e20, e21, e22, e23, e24, e25, e26, e27, e28, e29, e30, e31, e32, e33, e34, cE, cOE, hcs, hap, killE, deadOf, rwE, cD, cO, consD, gdS, eqB, newC, mkV, storeC, firstN, snocAll, appAll, dropN, repN, putSl, slAt, allL, lvC, softC, ckD, ckO, hcallC, wfC, wfL, wfE, wfV, hP, hk, res17, kp17, txC, rowText, c0, w1, w2, p0, p1])
    exact ⟨by omega, fin _ _ (by unfold secText; rw [if_pos hn]; rfl)⟩
  · have c0 : decide (n < 0) = false := decide_eq_false hn
    have w2 : IntKind.u64.wrap n = n := by rw [IntKind.wrap_u64]; omega
    have p0 : 0 ≤ n := by omega
    have p1 : n < 18446744073709551616 := by omega
    (refine VT_ok hctr (rs := res17) true 300 _ _ _ ?_; simp (config := { maxSteps := 1000000 }) only [VT, f00, f01, opG_t, opG_f, putG_t, putG_f, VC, appL, repZ, mkFs, newSl, resS, teS, resV, opK, putK, storeK, softS, eqC, eqCs, callS, moveS, loadS, nilS, binV, binS, unS, convS, faS, fldS, iaS, ixS, slS, lenS, buildS, fillS, extS, ifS, capsS, boundS, strLen, minS, maxS, pickS, plainS, oneS, onesS, cellsS, ev, evs, getS, ofVal, takeN, takeAt, layN, nthS, setN, snoc, lenN, unw, memN, trimS, TE.sv, argS, cxOf, lays, ↓reduceIte, reduceCtorEq, Value.oneCell', Nat.reduceEqDiff, Nat.reduceAdd, Nat.reduceLT, Nat.reduceBEq, Nat.reduceSub, Nat.reduceLeDiff, e00, e01, e02, e03, e04, e05, e06, e07, e08, e09, e10, e11, e12, e13, e14, e15, e16, e17, e18, e19, e20, e21, e22, e23, e24, e25, e26, e27, e28, e29, e30, e31, e32, e33, e34, cE, cOE, hcs, hap, killE, deadOf, rwE, cD, cO, consD, gdS, eqB, newC, mkV, storeC, firstN, snocAll, appAll, dropN, repN, putSl, slAt, allL, lvC, softC, ckD, ckO, hcallC, wfC, wfL, wfE, wfV, hP, hk, res17, kp17, txC, rowText, c0, w2, p0, p1])
    exact fin _ _ (by unfold secText; rw [if_neg hn])
def rowSgn : List SV → Option (Prop × SV)
  | [.c (.i .i64 n)] => some (-1099511627776 ≤ n ∧ n ≤ 1099511627776, .c (.s (secText n)))
  | _ => none
def nuC : Ctr := fun f en xs => match f with
  | 17 => rowSgn xs
  | 16 => rowText xs
  | _ => quC f en xs
theorem nuC_ok {C : Cx} (hP : C.P = Tryz.prog) (hE : ∀ w, Upd C.S C.w0 w → EnvT w) : CtrOk C nuC := by
  intro f en xs p v h hp ρ w hup hHp hHo hinj hwf
  unfold nuC at h
  split at h
  · rw [hP]
    refine ⟨fun args w => Tryz.call17 args w, ?_⟩
    unfold rowSgn at h
    split at h <;> simp only [Option.some.injEq, Prod.mk.injEq, reduceCtorEq] at h
    obtain ⟨rfl, rfl⟩ := h
    exact ⟨trivial, sgn_w _ hp.1 hp.2 w (hE w hup).env⟩
  · rw [hP]; exact ⟨fun args w => Tryz.call16 args w, rowText_ok h hp (hE w hup).env⟩
  · exact quC_ok hP hE f en xs p v h hp ρ w hup hHp hHo hinj hwf
theorem numbers_walk (cas delta first fl : Nat) (sec more : Int) (hc : cas < 18446744073709551616) (hd : delta < 18446744073709551616) (hf : first < 18446744073709551616) (hl : fl < 4294967296) (w : World) (hE0 : EnvT w) :
    Calls Tryz.prog 6 #[.int .u64 (cas : Int), .int .u64 (delta : Int), .int .u64 (first : Int), .int .u32 (fl : Int), .int .i64 sec, .int .i64 more] w fun e w' => e = .returned (.bool true) ∧ Below w.heap.size w w' := by
  refine calls_of_Run Tryz.func6 rfl kp6 (S := Non) (ρ := fun _ => reOf 0) (en := []) [.c (.i .u64 (cas : Int)), .c (.i .u64 (delta : Int)), .c (.i .u64 (first : Int)), .c (.i .u32 (fl : Int)), .c (.i .i64 sec), .c (.i .i64 more)] Tryz.ntmps6 (At.nil _ _ _) (by simp [SV.wf, SC.wf]) (by simp) ?_
  intro C hC hP hk
  have hE : ∀ w', Upd C.S C.w0 w' → EnvT w' := fun w' hu => by rw [hC] at hu; exact hE0.below hu.to_below
  have hctr := nuC_ok hP hE
  have hn0 : C.n0 = 0 := by rw [hC]; rfl
  have fin : ∀ en, Fin C res6 (.c (.b true)) en := fun en => Fin_ro (v := .c (.b true)) hC hres6 rfl trivial
  by_cases n0 : sec < -1099511627776
  · have g0 : decide (sec < -1099511627776) = true := decide_eq_true n0
    (refine VT_ok hctr (rs := res6) true 300 _ _ _ ?_; simp (config := { maxSteps := 1000000 }) only [VT, f00, f01, opG_t, opG_f, putG_t, putG_f, VC, appL, repZ, mkFs, newSl, resS, teS, resV, opK, putK, storeK, softS, eqC, eqCs, callS, moveS, loadS, nilS, binV, binS, unS, convS, faS, fldS, iaS, ixS, slS, lenS, buildS, fillS, extS, ifS, capsS, boundS, strLen, minS, maxS, pickS, plainS, oneS, onesS, cellsS, ev, evs, getS, ofVal, takeN, takeAt, layN, nthS, setN, snoc, lenN, unw, memN, trimS, TE.sv, argS, cxOf, lays, ↓reduceIte, reduceCtorEq, Value.oneCell', Nat.reduceEqDiff, Nat.reduceAdd, Nat.reduceLT, Nat.reduceBEq, Nat.reduceSub, Nat.reduceLeDiff, e00, e01, e02, e03, e04, e05, e06, e07, e08, e09, e10, e11, e12, e13, e14, e15, e16, e17, e18, e19, e20, e21, e22, e23, e24, e25, e26, e27, e28, e29, e30, e31, e32, e33, e34, cE, cOE, hcs, hap, killE, deadOf, rwE, cD, cO, consD, gdS, eqB, newC, mkV, storeC, firstN, snocAll, appAll, dropN, repN, putSl, slAt, allL, lvC, softC, ckD, ckO, hcallC, wfC, wfL, wfE, wfV, hP, hk, res6, kp6, nuC, quC, shM, rowSgn, rowText, pmV, mqZ, mqS, cmE, flE, rwE, flatG, ecS, Cd.zero, List.length_cons, List.length_nil, List.flatMap_cons, List.flatMap_nil, List.append_nil, List.map_cons, List.map_nil, Nat.zero_add, Int.toNat_natCast, Int.toNat_zero, Nat.zero_mul, Int.le_refl, g0])
    exact fin _
  have g0 : decide (sec < -1099511627776) = false := decide_eq_false n0
  by_cases n1 : 1099511627776 < sec
  · have g1 : decide (1099511627776 < sec) = true := decide_eq_true n1
    (refine VT_ok hctr (rs := res6) true 300 _ _ _ ?_; simp (config := { maxSteps := 1000000 }) only [VT, f00, f01, opG_t, opG_f, putG_t, putG_f, VC, appL, repZ, mkFs, newSl, resS, teS, resV, opK, putK, storeK, softS, eqC, eqCs, callS, moveS, loadS, nilS, binV, binS, unS, convS, faS, fldS, iaS, ixS, slS, lenS, buildS, fillS, extS, ifS, capsS, boundS, strLen, minS, maxS, pickS, plainS, oneS, onesS, cellsS, ev, evs, getS, ofVal, takeN, takeAt, layN, nthS, setN, snoc, lenN, unw, memN, trimS, TE.sv, argS, cxOf, lays, ↓reduceIte, reduceCtorEq, Value.oneCell', Nat.reduceEqDiff, Nat.reduceAdd, Nat.reduceLT, Nat.reduceBEq, Nat.reduceSub, Nat.reduceLeDiff, e00, e01, e02, e03, e04, e05, e06, e07, e08, e09, e10, e11, e12, e13, e14, e15, e16, e17, e18, e19, e20, e21, e22, e23, e24, e25, e26, e27, e28, e29, e30, e31, e32, e33, e34, cE, cOE, hcs, hap, killE, deadOf, rwE, cD, cO, consD, gdS, eqB, newC, mkV, storeC, firstN, snocAll, appAll, dropN, repN, putSl, slAt, allL, lvC, softC, ckD, ckO, hcallC, wfC, wfL, wfE, wfV, hP, hk, res6, kp6, nuC, quC, shM, rowSgn, rowText, pmV, mqZ, mqS, cmE, flE, rwE, flatG, ecS, Cd.zero, List.length_cons, List.length_nil, List.flatMap_cons, List.flatMap_nil, List.append_nil, List.map_cons, List.map_nil, Nat.zero_add, Int.toNat_natCast, Int.toNat_zero, Nat.zero_mul, Int.le_refl, g0, g1])
    exact fin _
  have g1 : decide (1099511627776 < sec) = false := decide_eq_false n1
  by_cases n2 : more < -1099511627776
  · have g2 : decide (more < -1099511627776) = true := decide_eq_true n2
    (refine VT_ok hctr (rs := res6) true 300 _ _ _ ?_; simp (config := { maxSteps := 1000000 }) only [VT, f00, f01, opG_t, opG_f, putG_t, putG_f, VC, appL, repZ, mkFs, newSl, resS, teS, resV, opK, putK, storeK, softS, eqC, eqCs, callS, moveS, loadS, nilS, binV, binS, unS, convS, faS, fldS, iaS, ixS, slS, lenS, buildS, fillS, extS, ifS, capsS, boundS, strLen, minS, maxS, pickS, plainS, oneS, onesS, cellsS, ev, evs, getS, ofVal, takeN, takeAt, layN, nthS, setN, snoc, lenN, unw, memN, trimS, TE.sv, argS, cxOf, lays, ↓reduceIte, reduceCtorEq, Value.oneCell', Nat.reduceEqDiff, Nat.reduceAdd, Nat.reduceLT, Nat.reduceBEq, Nat.reduceSub, Nat.reduceLeDiff, e00, e01, e02, e03, e04, e05, e06, e07, e08, e09, e10, e11, e12, e13, e14, e15, e16, e17, e18, e19, e20, e21, e22, e23, e24, e25, e26, e27, e28, e29, e30, e31, e32, e33, e34, cE, cOE, hcs, hap, killE, deadOf, rwE, cD, cO, consD, gdS, eqB, newC, mkV, storeC, firstN, snocAll, appAll, dropN, repN, putSl, slAt, allL, lvC, softC, ckD, ckO, hcallC, wfC, wfL, wfE, wfV, hP, hk, res6, kp6, nuC, quC, shM, rowSgn, rowText, pmV, mqZ, mqS, cmE, flE, rwE, flatG, ecS, Cd.zero, List.length_cons, List.length_nil, List.flatMap_cons, List.flatMap_nil, List.append_nil, List.map_cons, List.map_nil, Nat.zero_add, Int.toNat_natCast, Int.toNat_zero, Nat.zero_mul, Int.le_refl, g0, g1, g2])
    exact fin _
  have g2 : decide (more < -1099511627776) = false := decide_eq_false n2
  by_cases n3 : 1099511627776 < more
  · have g3 : decide (1099511627776 < more) = true := decide_eq_true n3
    (refine VT_ok hctr (rs := res6) true 300 _ _ _ ?_; simp (config := { maxSteps := 1000000 }) only [VT, f00, f01, opG_t, opG_f, putG_t, putG_f, VC, appL, repZ, mkFs, newSl, resS, teS, resV, opK, putK, storeK, softS, eqC, eqCs, callS, moveS, loadS, nilS, binV, binS, unS, convS, faS, fldS, iaS, ixS, slS, lenS, buildS, fillS, extS, ifS, capsS, boundS, strLen, minS, maxS, pickS, plainS, oneS, onesS, cellsS, ev, evs, getS, ofVal, takeN, takeAt, layN, nthS, setN, snoc, lenN, unw, memN, trimS, TE.sv, argS, cxOf, lays, ↓reduceIte, reduceCtorEq, Value.oneCell', Nat.reduceEqDiff, Nat.reduceAdd, Nat.reduceLT, Nat.reduceBEq, Nat.reduceSub, Nat.reduceLeDiff, e00, e01, e02, e03, e04, e05, e06, e07, e08, e09, e10, e11, e12, e13, e14, e15, e16, e17, e18, e19, e20, e21, e22, e23, e24, e25, e26, e27, e28, e29, e30, e31, e32, e33, e34, cE, cOE, hcs, hap, killE, deadOf, rwE, cD, cO, consD, gdS, eqB, newC, mkV, storeC, firstN, snocAll, appAll, dropN, repN, putSl, slAt, allL, lvC, softC, ckD, ckO, hcallC, wfC, wfL, wfE, wfV, hP, hk, res6, kp6, nuC, quC, shM, rowSgn, rowText, pmV, mqZ, mqS, cmE, flE, rwE, flatG, ecS, Cd.zero, List.length_cons, List.length_nil, List.flatMap_cons, List.flatMap_nil, List.append_nil, List.map_cons, List.map_nil, Nat.zero_add, Int.toNat_natCast, Int.toNat_zero, Nat.zero_mul, Int.le_refl, g0, g1, g2, g3])
    exact fin _
  have g3 : decide (1099511627776 < more) = false := decide_eq_false n3
  have a0 : (0 : Int) ≤ (cas : Int) := by omega
  have a1 : (cas : Int) < 18446744073709551616 := by omega
  have b0 : (0 : Int) ≤ (delta : Int) := by omega
  have b1 : (delta : Int) < 18446744073709551616 := by omega
  have c0 : (0 : Int) ≤ (first : Int) := by omega
  have c1 : (first : Int) < 18446744073709551616 := by omega
  have f0 : (0 : Int) ≤ (fl : Int) := by omega
  have f1 : (fl : Int) < 18446744073709551616 := by omega
  have wf : IntKind.u64.wrap (fl : Int) = (fl : Int) := wrap_u64n fl (by omega)
  have s0 : -1099511627776 ≤ sec := by omega
  have s1 : sec ≤ 1099511627776 := by omega
  have m0 : -1099511627776 ≤ more := by omega
  have m1 : more ≤ 1099511627776 := by omega
  have d1 := dec_le20 hc
  have d2 := dec_le20 hd
  have d3 := dec_le20 hf
  have d4 := dec_le20 (n := fl) (by omega)
  have d5 := secText_len s0 s1
  have d6 := secText_len m0 m1
  obtain ⟨L1, e1⟩ := mn_1 (cas := cas) (fl := fl) hc hl s0 s1
  obtain ⟨L2, e2⟩ := mn_2 (cas := cas) (delta := delta) (first := first) hc hd hf s0 s1 m0 m1
  obtain ⟨L3, e3⟩ := mn_3 s0 s1 m0 m1
  obtain ⟨G1, hG1⟩ : ∃ G, (mnW1 cas fl sec).drop 2 = G := ⟨_, rfl⟩
  obtain ⟨G2, hG2⟩ : ∃ G, (mnW2 cas delta first sec more).drop 1 = G := ⟨_, rfl⟩
  obtain ⟨G3, hG3⟩ : ∃ G, (mnW3 sec more).drop 1 = G := ⟨_, rfl⟩
  rw [hG1] at e1; rw [hG2] at e2; rw [hG3] at e3
  have u1 : (((1 : Nat) : Int) != 1) = false := rfl
  have u2 : (0 : Int) < ((1 : Nat) : Int) := by decide
  (refine VT_ok hctr (rs := res6) true 300 _ _ _ ?_; simp (config := { maxSteps := 1000000 }) only [VT, f00, f01, opG_t, opG_f, putG_t, putG_f, VC, appL, repZ, mkFs, newSl, resS, teS, resV, opK, putK, storeK, softS, eqC, eqCs, callS, moveS, loadS, nilS, binV, binS, unS, convS, faS, fldS, iaS, ixS, slS, lenS, buildS, fillS, extS, ifS, capsS, boundS, strLen, minS, maxS, pickS, plainS, oneS, onesS, cellsS, ev, evs, getS, ofVal, takeN, takeAt, layN, nthS, setN, snoc, lenN, unw, memN, trimS, TE.sv, argS, cxOf, lays, ↓reduceIte, reduceCtorEq, Value.oneCell', Nat.reduceEqDiff, Nat.reduceAdd, Nat.reduceLT, Nat.reduceBEq, Nat.reduceSub, Nat.reduceLeDiff, e00, e01, e02, e03, e04, e05, e06, e07, e08, e09, e10, e11, e12, e13, e14, e15, e16, e17, e18, e19, e20, e21, e22, e23, e24, e25, e26, e27, e28, e29, e30, e31, e32, e33, e34, cE, cOE, hcs, hap, killE, deadOf, rwE, cD, cO, consD, gdS, eqB, newC, mkV, storeC, firstN, snocAll, appAll, dropN, repN, putSl, slAt, allL, lvC, softC, ckD, ckO, hcallC, wfC, wfL, wfE, wfV, hP, hk, res6, kp6, nuC, quC, shM, rowSgn, rowText, pmV, mqZ, mqS, cmE, flE, rwE, flatG, ecS, Cd.zero, List.length_cons, List.length_nil, List.flatMap_cons, List.flatMap_nil, List.append_nil, List.map_cons, List.map_nil, Nat.zero_add, Int.toNat_natCast, Int.toNat_zero, Nat.zero_mul, Int.le_refl, g0, g1, g2, g3, a0, a1, b0, b1, c0, c1, f0, f1, wf, s0, s1, m0, m1])
  repeat (refine ⟨by first | omega | (simp only [List.length_append, List.length_cons, List.length_nil]; omega), ?_⟩)
  refine Run_mparse _ (x := _) ((congrArg mParse (by simp [joinB, mnW1, m_ms])).trans e1) ?_ hP hE (by rw [hn0]; exact Nat.zero_le _) rfl (by simp) ?_
  · simp only [List.length_append, List.length_cons, List.length_nil]; omega
  (refine VT_ok hctr (rs := res6) true 300 _ _ _ ?_; simp (config := { maxSteps := 1000000 }) only [VT, f00, f01, opG_t, opG_f, putG_t, putG_f, VC, appL, repZ, mkFs, newSl, resS, teS, resV, opK, putK, storeK, softS, eqC, eqCs, callS, moveS, loadS, nilS, binV, binS, unS, convS, faS, fldS, iaS, ixS, slS, lenS, buildS, fillS, extS, ifS, capsS, boundS, strLen, minS, maxS, pickS, plainS, oneS, onesS, cellsS, ev, evs, getS, ofVal, takeN, takeAt, layN, nthS, setN, snoc, lenN, unw, memN, trimS, TE.sv, argS, cxOf, lays, ↓reduceIte, reduceCtorEq, Value.oneCell', Nat.reduceEqDiff, Nat.reduceAdd, Nat.reduceLT, Nat.reduceBEq, Nat.reduceSub, Nat.reduceLeDiff, e00, e01, e02, e03, e04, e05, e06, e07, e08, e09, e10, e11, e12, e13, e14, e15, e16, e17, e18, e19, e20, e21, e22, e23, e24, e25, e26, e27, e28, e29, e30, e31, e32, e33, e34, cE, cOE, hcs, hap, killE, deadOf, rwE, cD, cO, consD, gdS, eqB, newC, mkV, storeC, firstN, snocAll, appAll, dropN, repN, putSl, slAt, allL, lvC, softC, ckD, ckO, hcallC, wfC, wfL, wfE, wfV, hP, hk, res6, kp6, nuC, quC, shM, rowSgn, rowText, pmV, mqZ, mqS, cmE, flE, rwE, flatG, ecS, Cd.zero, List.length_cons, List.length_nil, List.flatMap_cons, List.flatMap_nil, List.append_nil, List.map_cons, List.map_nil, Nat.zero_add, Int.toNat_natCast, Int.toNat_zero, Nat.zero_mul, Int.le_refl, a0, a1, b0, b1, c0, c1, f0, f1, wf, s0, s1, m0, m1])
  repeat (refine ⟨by first | omega | (simp only [List.length_append, List.length_cons, List.length_nil]; omega), ?_⟩)
  refine Run_mparse _ (x := _) ((congrArg mParse (by simp [joinB, mnW2, m_ma])).trans e2) ?_ hP hE (by rw [hn0]; exact Nat.zero_le _) rfl (by simp) ?_
  · simp only [List.length_append, List.length_cons, List.length_nil]; omega
  (refine VT_ok hctr (rs := res6) true 300 _ _ _ ?_; simp (config := { maxSteps := 1000000 }) only [VT, f00, f01, opG_t, opG_f, putG_t, putG_f, VC, appL, repZ, mkFs, newSl, resS, teS, resV, opK, putK, storeK, softS, eqC, eqCs, callS, moveS, loadS, nilS, binV, binS, unS, convS, faS, fldS, iaS, ixS, slS, lenS, buildS, fillS, extS, ifS, capsS, boundS, strLen, minS, maxS, pickS, plainS, oneS, onesS, cellsS, ev, evs, getS, ofVal, takeN, takeAt, layN, nthS, setN, snoc, lenN, unw, memN, trimS, TE.sv, argS, cxOf, lays, ↓reduceIte, reduceCtorEq, Value.oneCell', Nat.reduceEqDiff, Nat.reduceAdd, Nat.reduceLT, Nat.reduceBEq, Nat.reduceSub, Nat.reduceLeDiff, e00, e01, e02, e03, e04, e05, e06, e07, e08, e09, e10, e11, e12, e13, e14, e15, e16, e17, e18, e19, e20, e21, e22, e23, e24, e25, e26, e27, e28, e29, e30, e31, e32, e33, e34, cE, cOE, hcs, hap, killE, deadOf, rwE, cD, cO, consD, gdS, eqB, newC, mkV, storeC, firstN, snocAll, appAll, dropN, repN, putSl, slAt, allL, lvC, softC, ckD, ckO, hcallC, wfC, wfL, wfE, wfV, hP, hk, res6, kp6, nuC, quC, shM, rowSgn, rowText, pmV, mqZ, mqS, cmE, flE, rwE, flatG, ecS, Cd.zero, List.length_cons, List.length_nil, List.flatMap_cons, List.flatMap_nil, List.append_nil, List.map_cons, List.map_nil, Nat.zero_add, Int.toNat_natCast, Int.toNat_zero, Nat.zero_mul, Int.le_refl, a0, a1, b0, b1, c0, c1, f0, f1, wf, s0, s1, m0, m1])
  repeat (refine ⟨by first | omega | (simp only [List.length_append, List.length_cons, List.length_nil]; omega), ?_⟩)
  refine Run_mparse _ (x := _) ((congrArg mParse (by simp [joinB, mnW3, m_mg])).trans e3) ?_ hP hE (by rw [hn0]; exact Nat.zero_le _) rfl (by simp) ?_
  · simp only [List.length_append, List.length_cons, List.length_nil]; omega
  (refine VT_ok hctr (rs := res6) true 300 _ _ _ ?_; simp (config := { maxSteps := 1000000 }) only [VT, f00, f01, opG_t, opG_f, putG_t, putG_f, VC, appL, repZ, mkFs, newSl, resS, teS, resV, opK, putK, storeK, softS, eqC, eqCs, callS, moveS, loadS, nilS, binV, binS, unS, convS, faS, fldS, iaS, ixS, slS, lenS, buildS, fillS, extS, ifS, capsS, boundS, strLen, minS, maxS, pickS, plainS, oneS, onesS, cellsS, ev, evs, getS, ofVal, takeN, takeAt, layN, nthS, setN, snoc, lenN, unw, memN, trimS, TE.sv, argS, cxOf, lays, ↓reduceIte, reduceCtorEq, Value.oneCell', Nat.reduceEqDiff, Nat.reduceAdd, Nat.reduceLT, Nat.reduceBEq, Nat.reduceSub, Nat.reduceLeDiff, e00, e01, e02, e03, e04, e05, e06, e07, e08, e09, e10, e11, e12, e13, e14, e15, e16, e17, e18, e19, e20, e21, e22, e23, e24, e25, e26, e27, e28, e29, e30, e31, e32, e33, e34, cE, cOE, hcs, hap, killE, deadOf, rwE, cD, cO, consD, gdS, eqB, newC, mkV, storeC, firstN, snocAll, appAll, dropN, repN, putSl, slAt, allL, lvC, softC, ckD, ckO, hcallC, wfC, wfL, wfE, wfV, hP, hk, res6, kp6, nuC, quC, shM, rowSgn, rowText, pmV, mqZ, mqS, cmE, flE, rwE, flatG, ecS, Cd.zero, List.length_cons, List.length_nil, List.flatMap_cons, List.flatMap_nil, List.append_nil, List.map_cons, List.map_nil, Nat.zero_add, Int.toNat_natCast, Int.toNat_zero, Nat.zero_mul, Int.le_refl, a0, a1, b0, b1, c0, c1, f0, f1, wf, s0, s1, m0, m1, u1])
  have z1 : ∀ n, wfL n (G1.map SC.s) = true := fun n => wfL_iff (st_wf _ _)
  have z2 : ∀ n, wfL n (G2.map SC.s) = true := fun n => wfL_iff (st_wf _ _)
  have z3 : ∀ n, wfL n (G3.map SC.s) = true := fun n => wfL_iff (st_wf _ _)
  (refine Run_drawD hctr (by rw [hP]; rfl) rs6_13 [] (ensure_type_of% (Cmp.of (by simp (config := { maxSteps := 1000000 }) only [VC, appL, repZ, mkFs, newSl, resS, teS, resV, opK, putK, storeK, softS, eqC, eqCs, callS, moveS, loadS, nilS, binV, binS, unS, convS, faS, fldS, iaS, ixS, slS, lenS, buildS, fillS, extS, ifS, capsS, boundS, strLen, minS, maxS, pickS, plainS, oneS, onesS, cellsS, ev, evs, getS, ofVal, takeN, takeAt, layN, nthS, setN, snoc, lenN, unw, memN, trimS, TE.sv, argS, cxOf, lays, ↓reduceIte, reduceCtorEq, Value.oneCell', Nat.reduceEqDiff, Nat.reduceAdd, Nat.reduceLT, Nat.reduceBEq, Nat.reduceSub, Nat.reduceLeDiff, e00, e01, e02, e03, e04, e05, e06, e07, e08, e09, e10, e11, e12, e13, e14, e15, e16, e17, e18, e19, e20, e21, e22, e23, e24, e25, e26, e27, e28, e29, e30, e31, e32, e33, e34, cE, cOE, hcs, hap, killE, deadOf, rwE, cD, cO, consD, gdS, eqB, newC, mkV, storeC, firstN, snocAll, appAll, dropN, repN, putSl, slAt, allL, lvC, softC, ckD, ckO, hcallC, wfC, wfL, wfE, wfV, hP, nuC, quC, shM, rowSgn, rowText, pmV, mqZ, mqS, cmE, flE, rwE, flatG, ecS, Cd.zero, List.length_cons, List.length_nil, List.flatMap_cons, List.flatMap_nil, List.append_nil, List.map_cons, List.map_nil, Nat.zero_add, Int.toNat_natCast, Int.toNat_zero, Nat.zero_mul, Int.le_refl, z1, z2, z3, u1, u2, steq_cm, beq_self_eq_true, true_and, Bool.not_false, List.append_eq, List.cons_append, List.nil_append]; rfl)) "" Cmp.mk) (by kernel_rfl) (by kernel_rfl) (by first | exact lenB_one _ | kernel_rfl) (by kernel_rfl) (by rfl) (by rfl) (by first | exact firstN_self _ | rfl) (by rfl) (by simp (config := { maxSteps := 1000000 }) only [VC, appL, repZ, mkFs, newSl, resS, teS, resV, opK, putK, storeK, softS, eqC, eqCs, callS, moveS, loadS, nilS, binV, binS, unS, convS, faS, fldS, iaS, ixS, slS, lenS, buildS, fillS, extS, ifS, capsS, boundS, strLen, minS, maxS, pickS, plainS, oneS, onesS, cellsS, ev, evs, getS, ofVal, takeN, takeAt, layN, nthS, setN, snoc, lenN, unw, memN, trimS, TE.sv, argS, cxOf, lays, ↓reduceIte, reduceCtorEq, Value.oneCell', Nat.reduceEqDiff, Nat.reduceAdd, Nat.reduceLT, Nat.reduceBEq, Nat.reduceSub, Nat.reduceLeDiff, e00, e01, e02, e03, e04, e05, e06, e07, e08, e09, e10, e11, e12, e13, e14, e15, e16, e17, e18, e19, e20, e21, e22, e23, e24, e25, e26, e27, e28, e29, e30, e31, e32, e33, e34, cE, cOE, hcs, hap, killE, deadOf, rwE, cD, cO, consD, gdS, eqB, newC, mkV, storeC, firstN, snocAll, appAll, dropN, repN, putSl, slAt, allL, lvC, softC, ckD, ckO, hcallC, wfC, wfL, wfE, wfV, hP, nuC, quC, shM, rowSgn, rowText, pmV, mqZ, mqS, cmE, flE, rwE, flatG, ecS, Cd.zero, List.length_cons, List.length_nil, List.flatMap_cons, List.flatMap_nil, List.append_nil, List.map_cons, List.map_nil, Nat.zero_add, Int.toNat_natCast, Int.toNat_zero, Nat.zero_mul, Int.le_refl, z1, z2, z3, u1, u2, steq_cm, beq_self_eq_true, true_and, Bool.not_false, List.append_eq, List.cons_append, List.nil_append]) ?_; refine VT_ok hctr (rs := res6) true 300 _ _ _ ?_; simp (config := { maxSteps := 1000000 }) only [VT, f00, f01, opG_t, opG_f, putG_t, putG_f, VC, appL, repZ, mkFs, newSl, resS, teS, resV, opK, putK, storeK, softS, eqC, eqCs, callS, moveS, loadS, nilS, binV, binS, unS, convS, faS, fldS, iaS, ixS, slS, lenS, buildS, fillS, extS, ifS, capsS, boundS, strLen, minS, maxS, pickS, plainS, oneS, onesS, cellsS, ev, evs, getS, ofVal, takeN, takeAt, layN, nthS, setN, snoc, lenN, unw, memN, trimS, TE.sv, argS, cxOf, lays, ↓reduceIte, reduceCtorEq, Value.oneCell', Nat.reduceEqDiff, Nat.reduceAdd, Nat.reduceLT, Nat.reduceBEq, Nat.reduceSub, Nat.reduceLeDiff, e00, e01, e02, e03, e04, e05, e06, e07, e08, e09, e10, e11, e12, e13, e14, e15, e16, e17, e18, e19, e20, e21, e22, e23, e24, e25, e26, e27, e28, e29, e30, e31, e32, e33, e34, cE, cOE, hcs, hap, killE, deadOf, rwE, cD, cO, consD, gdS, eqB, newC, mkV, storeC, firstN, snocAll, appAll, dropN, repN, putSl, slAt, allL, lvC, softC, ckD, ckO, hcallC, wfC, wfL, wfE, wfV, hP, hk, res6, kp6, nuC, quC, shM, rowSgn, rowText, pmV, mqZ, mqS, cmE, flE, rwE, flatG, ecS, Cd.zero, List.length_cons, List.length_nil, List.flatMap_cons, List.flatMap_nil, List.append_nil, List.map_cons, List.map_nil, Nat.zero_add, Int.toNat_natCast, Int.toNat_zero, Nat.zero_mul, Int.le_refl, z1, z2, z3, u1, u2, steq_cm, beq_self_eq_true, true_and, Bool.not_false, List.append_eq, List.cons_append, List.nil_append])
  exact fin _
end Go.Proofs.YtlaagebdbcmckaaGreatDoor
