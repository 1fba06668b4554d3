/- The document's left, flag, told (ambryref21), walked. Printed by gen_edref.py. -/
import Derived.Test.YtlaagebdbcmckaaGreatDoorCEquiet
import Derived.Test.YtlaagebdbcmckaaGreatDoorCRText
import Derived.Test.YtlaagebdbcmckaaGreatDoorCMetaRefR
namespace Go.Proofs.YtlaagebdbcmckaaGreatDoor
set_option linter.unusedSimpArgs false
set_option linter.unusedVariables false
set_option linter.unusedSimpArgs false
set_option linter.unusedVariables false
set_option maxHeartbeats 8000000
open Go.RowKit
set_option maxRecDepth 100000

def dT : Ctr := fun f _ xs => match f with
  | 40 => rowText xs
  | _ => none
theorem dText_ok {p : Prop} {v : SV} {xs : List SV} {en : List EN} {ρ : Nat → RE} {w : World} (h : rowText xs = some (p, v)) (hp : p) :
    v.wf (· < en.length) ∧ Calls Tryz.prog 40 (xs.map (SV.den ρ)).toArray w fun e w' => e = .returned (v.den ρ) ∧ Below w.heap.size w w' := by
  unfold rowText at h
  split at h <;> simp only [Option.some.injEq, Prod.mk.injEq, reduceCtorEq] at h
  obtain ⟨rfl, rfl⟩ := h
  exact ⟨trivial, rtextI _ hp.1 hp.2 w⟩
theorem dT_ok {C : Cx} (hP : C.P = Tryz.prog) : CtrOk C dT := by
  intro f en xs p v h hp ρ w hup hHp hHo hinj hwf
  unfold dT at h
  split at h
  · rw [hP]; exact ⟨fun args w => Tryz.call40 args w, dText_ok h hp⟩
  · cases h
section
variable {X : Xq} {r : Mq} {a : An} {now : Int} {w : World}
theorem dleft_w {x : It} (h0 : -9223372036854775808 ≤ x.exp - now) (h1 : x.exp - now ≤ 9223372036854775807) : Calls Tryz.prog 39 #[(SV.g (itM x)).den (fun _ => reOf 0), .int .i64 now] w fun e w' => e = .returned (.string ⟨(leftT x now).toArray⟩) ∧ Below w.heap.size w w' := by
  refine calls_of_Run Tryz.func39 rfl kp39 (S := Non) (ρ := fun _ => reOf 0) (en := []) [.g (itM x), .c (.i .i64 now)] Tryz.ntmps39 (At.nil _ _ _) (by simp only [List.mem_cons, List.not_mem_nil, or_false, forall_eq_or_imp, forall_eq]; exact ⟨itM_wf _ _, trivial⟩) (by simp) ?_
  intro C hC hP hk
  have hctr := dT_ok hP
  have fin : ∀ l en, l = leftT x now → Fin C res39 (.c (.s l)) en := fun l en hl => by subst hl; exact Fin_ro (v := .c (.s (leftT x now))) hC hres39 rfl trivial
  by_cases h0' : x.exp = 0
  · have c0 : (x.exp == 0) = true := by simpa using h0'
    (refine VT_ok hctr (rs := res39) true 300 _ _ _ ?_; simp (config := { maxSteps := 1000000 }) only [VT, f00, f01, opG_t, opG_f, putG_t, putG_f, VC, appL, repZ, mkFs, newSl, resS, teS, resV, opK, putK, storeK, softS, eqC, eqCs, callS, moveS, loadS, nilS, binV, binS, unS, convS, faS, fldS, iaS, ixS, slS, lenS, buildS, fillS, extS, ifS, capsS, boundS, strLen, minS, maxS, pickS, plainS, oneS, onesS, cellsS, ev, evs, getS, ofVal, takeN, takeAt, layN, nthS, setN, snoc, lenN, unw, memN, trimS, TE.sv, argS, cxOf, lays, ↓reduceIte, reduceCtorEq, Value.oneCell', Nat.reduceEqDiff, Nat.reduceAdd, Nat.reduceLT, Nat.reduceBEq, Nat.reduceSub, Nat.reduceLeDiff, e00, e01, e02, e03, e04, e05, e06, e07, e08, e09, e10, e11, e12, e13, e14, e15, e16, e17, e18, e19, e20, e21, e22, e23, e24, e25, e26, e27, e28, e29, e30, e31, e32, e33, e34, cE, cOE, hcs, hap, killE, deadOf, rwE, cD, cO, consD, gdS, eqB, newC, mkV, storeC, firstN, snocAll, appAll, dropN, repN, putSl, slAt, allL, lvC, softC, ckD, ckO, hcallC, wfC, wfL, wfE, wfV, hP, hk, res39, kp39, dT, rowText, itM, c0])
    exact fin _ _ (by unfold leftT; rw [if_pos h0'])
  · have c0 : (x.exp == 0) = false := by simpa using h0'
    have w1 : IntKind.i64.wrap (x.exp - now) = x.exp - now := IntWalk.i64_in _ (by omega)
    obtain ⟨m, hm⟩ : ∃ m : Int, (if (0 : Int) < x.exp - now then x.exp - now else 0) = m := ⟨_, rfl⟩
    have m0 : 0 ≤ m ∧ m < 18446744073709551616 := by rw [← hm]; split <;> omega
    have w2 : IntKind.u64.wrap m = m := by rw [IntKind.wrap_u64]; omega
    (refine VT_ok hctr (rs := res39) true 300 _ _ _ ?_; simp (config := { maxSteps := 1000000 }) only [VT, f00, f01, opG_t, opG_f, putG_t, putG_f, VC, appL, repZ, mkFs, newSl, resS, teS, resV, opK, putK, storeK, softS, eqC, eqCs, callS, moveS, loadS, nilS, binV, binS, unS, convS, faS, fldS, iaS, ixS, slS, lenS, buildS, fillS, extS, ifS, capsS, boundS, strLen, minS, maxS, pickS, plainS, oneS, onesS, cellsS, ev, evs, getS, ofVal, takeN, takeAt, layN, nthS, setN, snoc, lenN, unw, memN, trimS, TE.sv, argS, cxOf, lays, ↓reduceIte, reduceCtorEq, Value.oneCell', Nat.reduceEqDiff, Nat.reduceAdd, Nat.reduceLT, Nat.reduceBEq, Nat.reduceSub, Nat.reduceLeDiff, e00, e01, e02, e03, e04, e05, e06, e07, e08, e09, e10, e11, e12, e13, e14, e15, e16, e17, e18, e19, e20, e21, e22, e23, e24, e25, e26, e27, e28, e29, e30, e31, e32, e33, e34, cE, cOE, hcs, hap, killE, deadOf, rwE, cD, cO, consD, gdS, eqB, newC, mkV, storeC, firstN, snocAll, appAll, dropN, repN, putSl, slAt, allL, lvC, softC, ckD, ckO, hcallC, wfC, wfL, wfE, wfV, hP, hk, res39, kp39, dT, rowText, itM, c0, w1, hm, w2, m0.1, m0.2])
    exact fin _ _ (by unfold leftT; rw [if_neg h0', hm])
def rowLeft : List SV → Option (Prop × SV)
  | [.g [.s ky, .i .u32 fl, .s vl, .i .i64 ex, .i .u64 cas, .i .i64 la, .b stl, .b won], .c (.i .i64 now)] => some (-9223372036854775808 ≤ ex - now ∧ ex - now ≤ 9223372036854775807, .c (.s (leftT ⟨ky, fl, vl, ex, cas, la, stl, won⟩ now)))
  | _ => none
def dL : Ctr := fun f en xs => match f with
  | 39 => rowLeft xs
  | _ => dT f en xs
theorem dL_ok {C : Cx} (hP : C.P = Tryz.prog) : CtrOk C dL := by
  intro f en xs p v h hp ρ w hup hHp hHo hinj hwf
  unfold dL at h
  split at h
  · rw [hP]
    refine ⟨fun args w => Tryz.call39 args w, ?_⟩
    unfold rowLeft at h
    split at h <;> simp only [Option.some.injEq, Prod.mk.injEq, reduceCtorEq] at h
    obtain ⟨rfl, rfl⟩ := h
    exact ⟨trivial, dleft_w (x := ⟨_, _, _, _, _, _, _, _⟩) hp.1 hp.2⟩
  · exact dT_ok hP f en xs p v h hp ρ w hup hHp hHo hinj hwf
def slDf (X : Xq) (k : Nat) (j : Nat) : List (Nat × SV) := [(5, .c (.i .i64 (j : Int))), (2, .c (.p 0 0)), (1, .c (.i .u8 (k : Int)))]
def rqB (X : Xq) (r : Mq) : EN := ⟨(26, 0, whole), xqS X r, true⟩
theorem dflag_w (nf : r.flags.length ≤ 5000) (hn : X.fn = r.flags.length) (hraw : RawT w X.fa r.flags) : Calls Tryz.prog 51 #[(SV.g (xqS X r)).den (fun _ => reOf 0), .int .u8 118] w fun e w' => e = .returned (.bool (hasF r 118)) ∧ Below w.heap.size w w' := by
  obtain ⟨ca, cn, cc, tk, ar, fa, fn, fc⟩ := X
  have hn : fn = r.flags.length := hn
  have hraw : RawT w fa r.flags := hraw
  refine calls_of_Run Tryz.func51 rfl kp51 (S := Non) (ρ := fun _ => reOf 0) (en := []) [.g (xqS ⟨ca, cn, cc, tk, ar, fa, fn, fc⟩ r), .c (.i .u8 118)] Tryz.ntmps51 (At.nil _ _ _) (by simp only [List.mem_cons, List.not_mem_nil, or_false, forall_eq_or_imp, forall_eq]; exact ⟨xq_wf _ _ _, trivial⟩) (by simp) ?_
  intro C hC hP hk
  have hctr := dL_ok hP
  have fin : ∀ b en, b = hasF r 118 → Fin C res51 (.c (.b b)) en := fun b en hb => by subst hb; exact Fin_ro (v := .c (.b (hasF r 118))) hC hres51 rfl trivial
  (refine VT_ok hctr (rs := res51) true 300 _ _ _ ?_; simp (config := { maxSteps := 1000000 }) only [VT, f00, f01, opG_t, opG_f, putG_t, putG_f, VC, appL, repZ, mkFs, newSl, resS, teS, resV, opK, putK, storeK, softS, eqC, eqCs, callS, moveS, loadS, nilS, binV, binS, unS, convS, faS, fldS, iaS, ixS, slS, lenS, buildS, fillS, extS, ifS, capsS, boundS, strLen, minS, maxS, pickS, plainS, oneS, onesS, cellsS, ev, evs, getS, ofVal, takeN, takeAt, layN, nthS, setN, snoc, lenN, unw, memN, trimS, TE.sv, argS, cxOf, lays, ↓reduceIte, reduceCtorEq, Value.oneCell', Nat.reduceEqDiff, Nat.reduceAdd, Nat.reduceLT, Nat.reduceBEq, Nat.reduceSub, Nat.reduceLeDiff, e00, e01, e02, e03, e04, e05, e06, e07, e08, e09, e10, e11, e12, e13, e14, e15, e16, e17, e18, e19, e20, e21, e22, e23, e24, e25, e26, e27, e28, e29, e30, e31, e32, e33, e34, cE, cOE, hcs, hap, killE, deadOf, rwE, cD, cO, consD, gdS, eqB, newC, mkV, storeC, firstN, snocAll, appAll, dropN, repN, putSl, slAt, allL, lvC, softC, ckD, ckO, hcallC, wfC, wfL, wfE, wfV, hP, hk, res51, kp51, dT, dL, rowText, rowLeft, xqS, anM, itM, Int.toNat_natCast, Nat.mul_one, Nat.reduceMul, Int.le_refl])
  refine Run_loopP (ι := { j : Nat // j ≤ fn ∧ hasF r 118 = (r.flags.drop j).any fun f => f.head? == some 118 }) (fun j => slDf ⟨ca, cn, cc, tk, ar, fa, fn, fc⟩ 118 j.1) (fun _ => [rqB ⟨ca, cn, cc, tk, ar, fa, fn, fc⟩ r]) (fun j => fn - j.1) ⟨0, Nat.zero_le _, rfl⟩ (sub_mk ⟨rfl, rfl, rfl, trivial⟩) rfl ?_
  rintro ⟨j, hj, hall⟩ D dP dS dw dn dr dk ddf dPan dRet hX hJ
  have hP0 := hP; have hk0 := hk; have hctr0 := hctr
  have hP : D.P = Tryz.prog := by rw [dP]; exact hP0
  have hk : D.kp = kp51 := by rw [dk]; exact hk0
  have hctr : CtrOk D dL := dL_ok hP
  show Run D _ _ (slDf ⟨ca, cn, cc, tk, ar, fa, fn, fc⟩ 118 j) [rqB ⟨ca, cn, cc, tk, ar, fa, fn, fc⟩ r]
  by_cases hjn : j < fn
  · obtain ⟨x, hx⟩ : ∃ x, r.flags[j]? = some x := ⟨_, List.getElem?_eq_getElem (by omega)⟩
    obtain ⟨b0, o, ha, hr⟩ := hraw.rd (D := D) (by rw [dS, hC]; rfl) (by rw [dw, hC]; rfl) hx
    subst ha
    have q1 : decide ((j : Int) < (fn : Int)) = true := decide_eq_true (by omega)
    have p0 : (0 : Int) ≤ (j : Int) := by omega
    have p1 : (j : Int) < (fn : Int) := by omega
    have p3 : IntKind.i64.wrap ((j : Int) + 1) = ((j + 1 : Nat) : Int) := by rw [IntWalk.i64_in _ (by omega)]; rfl
    have hdr : r.flags.drop j = x :: r.flags.drop (j + 1) := by
      rw [List.drop_eq_getElem_cons (by omega)]; congr 1
      exact (List.getElem?_eq_some_iff.1 hx).2
    rw [hdr, List.any_cons] at hall
    have dFin : ∀ b en, b = hasF r 118 → Fin D res51 (.c (.b b)) en := fun b en hb ρ a w' hw hn hwf hd hr => dRet _ _ (fin b en hb ρ a w' (hw.toC dS.symm dw.symm dr.symm dn.symm) (by rw [← dn]; exact hn) hwf (hd.trans ddf) (fun fn h => by rw [← dP]; exact hr fn h))
    cases x with
    | nil =>
      have c0 : (([] : List UInt8) == []) = true := rfl
      (refine VT_ok hctr (rs := res51) true 300 _ _ _ ?_; simp (config := { maxSteps := 1000000 }) only [VT, f00, f01, opG_t, opG_f, putG_t, putG_f, VC, appL, repZ, mkFs, newSl, resS, teS, resV, opK, putK, storeK, softS, eqC, eqCs, callS, moveS, loadS, nilS, binV, binS, unS, convS, faS, fldS, iaS, ixS, slS, lenS, buildS, fillS, extS, ifS, capsS, boundS, strLen, minS, maxS, pickS, plainS, oneS, onesS, cellsS, ev, evs, getS, ofVal, takeN, takeAt, layN, nthS, setN, snoc, lenN, unw, memN, trimS, TE.sv, argS, cxOf, lays, ↓reduceIte, reduceCtorEq, Value.oneCell', Nat.reduceEqDiff, Nat.reduceAdd, Nat.reduceLT, Nat.reduceBEq, Nat.reduceSub, Nat.reduceLeDiff, e00, e01, e02, e03, e04, e05, e06, e07, e08, e09, e10, e11, e12, e13, e14, e15, e16, e17, e18, e19, e20, e21, e22, e23, e24, e25, e26, e27, e28, e29, e30, e31, e32, e33, e34, cE, cOE, hcs, hap, killE, deadOf, rwE, cD, cO, consD, gdS, eqB, newC, mkV, storeC, firstN, snocAll, appAll, dropN, repN, putSl, slAt, allL, lvC, softC, ckD, ckO, hcallC, wfC, wfL, wfE, wfV, hP, hk, res51, kp51, dT, dL, rowText, rowLeft, xqS, anM, itM, Int.toNat_natCast, Nat.mul_one, Nat.reduceMul, Int.le_refl, slDf, rqB, q1, p0, p1, p3, hr, c0, Bool.not_true])
      exact hJ ⟨j + 1, by omega, by simpa using hall⟩ _ (by show fn - (j + 1) < fn - j; omega) (sub_mk ⟨rfl, rfl, rfl, trivial⟩)
    | cons c s =>
      have c0 : ((c :: s : List UInt8) == []) = false := rfl
      have g0 : (0 : Int) ≤ 0 := by decide
      have g1 : (0 : Int) < ((s.length + 1 : Nat) : Int) := by omega
      have g2 : List.length (c :: s : List UInt8) = s.length + 1 := rfl
      have hgd : (c :: s : List UInt8).getD (0 : Int).toNat 0 = c := rfl
      by_cases hc : c = 118
      · have e0 : ((c.toNat : Int) == ((118 : Nat) : Int)) = true := u8_eq (k := 118) (by decide) hc
        (refine VT_ok hctr (rs := res51) true 300 _ _ _ ?_; simp (config := { maxSteps := 1000000 }) only [VT, f00, f01, opG_t, opG_f, putG_t, putG_f, VC, appL, repZ, mkFs, newSl, resS, teS, resV, opK, putK, storeK, softS, eqC, eqCs, callS, moveS, loadS, nilS, binV, binS, unS, convS, faS, fldS, iaS, ixS, slS, lenS, buildS, fillS, extS, ifS, capsS, boundS, strLen, minS, maxS, pickS, plainS, oneS, onesS, cellsS, ev, evs, getS, ofVal, takeN, takeAt, layN, nthS, setN, snoc, lenN, unw, memN, trimS, TE.sv, argS, cxOf, lays, ↓reduceIte, reduceCtorEq, Value.oneCell', Nat.reduceEqDiff, Nat.reduceAdd, Nat.reduceLT, Nat.reduceBEq, Nat.reduceSub, Nat.reduceLeDiff, e00, e01, e02, e03, e04, e05, e06, e07, e08, e09, e10, e11, e12, e13, e14, e15, e16, e17, e18, e19, e20, e21, e22, e23, e24, e25, e26, e27, e28, e29, e30, e31, e32, e33, e34, cE, cOE, hcs, hap, killE, deadOf, rwE, cD, cO, consD, gdS, eqB, newC, mkV, storeC, firstN, snocAll, appAll, dropN, repN, putSl, slAt, allL, lvC, softC, ckD, ckO, hcallC, wfC, wfL, wfE, wfV, hP, hk, res51, kp51, dT, dL, rowText, rowLeft, xqS, anM, itM, Int.toNat_natCast, Nat.mul_one, Nat.reduceMul, Int.le_refl, slDf, rqB, q1, p0, p1, p3, hr, c0, g0, g1, g2, hgd, e0, Bool.not_false])
        exact dFin true _ (by rw [hall, hc]; rfl)
      · have e0 : ((c.toNat : Int) == ((118 : Nat) : Int)) = false := u8_ne (k := 118) hc
        (refine VT_ok hctr (rs := res51) true 300 _ _ _ ?_; simp (config := { maxSteps := 1000000 }) only [VT, f00, f01, opG_t, opG_f, putG_t, putG_f, VC, appL, repZ, mkFs, newSl, resS, teS, resV, opK, putK, storeK, softS, eqC, eqCs, callS, moveS, loadS, nilS, binV, binS, unS, convS, faS, fldS, iaS, ixS, slS, lenS, buildS, fillS, extS, ifS, capsS, boundS, strLen, minS, maxS, pickS, plainS, oneS, onesS, cellsS, ev, evs, getS, ofVal, takeN, takeAt, layN, nthS, setN, snoc, lenN, unw, memN, trimS, TE.sv, argS, cxOf, lays, ↓reduceIte, reduceCtorEq, Value.oneCell', Nat.reduceEqDiff, Nat.reduceAdd, Nat.reduceLT, Nat.reduceBEq, Nat.reduceSub, Nat.reduceLeDiff, e00, e01, e02, e03, e04, e05, e06, e07, e08, e09, e10, e11, e12, e13, e14, e15, e16, e17, e18, e19, e20, e21, e22, e23, e24, e25, e26, e27, e28, e29, e30, e31, e32, e33, e34, cE, cOE, hcs, hap, killE, deadOf, rwE, cD, cO, consD, gdS, eqB, newC, mkV, storeC, firstN, snocAll, appAll, dropN, repN, putSl, slAt, allL, lvC, softC, ckD, ckO, hcallC, wfC, wfL, wfE, wfV, hP, hk, res51, kp51, dT, dL, rowText, rowLeft, xqS, anM, itM, Int.toNat_natCast, Nat.mul_one, Nat.reduceMul, Int.le_refl, slDf, rqB, q1, p0, p1, p3, hr, c0, g0, g1, g2, hgd, e0, Bool.not_false])
        refine hJ ⟨j + 1, by omega, ?_⟩ _ (by show fn - (j + 1) < fn - j; omega) (sub_mk ⟨rfl, rfl, rfl, trivial⟩)
        have : ((c :: s : List UInt8).head? == some 118) = false := by simp [hc]
        rw [this, Bool.false_or] at hall; exact hall
  · have q1 : decide ((j : Int) < (fn : Int)) = false := decide_eq_false (by omega)
    (refine VT_ok hctr (rs := res51) true 300 _ _ _ ?_; simp (config := { maxSteps := 1000000 }) only [VT, f00, f01, opG_t, opG_f, putG_t, putG_f, VC, appL, repZ, mkFs, newSl, resS, teS, resV, opK, putK, storeK, softS, eqC, eqCs, callS, moveS, loadS, nilS, binV, binS, unS, convS, faS, fldS, iaS, ixS, slS, lenS, buildS, fillS, extS, ifS, capsS, boundS, strLen, minS, maxS, pickS, plainS, oneS, onesS, cellsS, ev, evs, getS, ofVal, takeN, takeAt, layN, nthS, setN, snoc, lenN, unw, memN, trimS, TE.sv, argS, cxOf, lays, ↓reduceIte, reduceCtorEq, Value.oneCell', Nat.reduceEqDiff, Nat.reduceAdd, Nat.reduceLT, Nat.reduceBEq, Nat.reduceSub, Nat.reduceLeDiff, e00, e01, e02, e03, e04, e05, e06, e07, e08, e09, e10, e11, e12, e13, e14, e15, e16, e17, e18, e19, e20, e21, e22, e23, e24, e25, e26, e27, e28, e29, e30, e31, e32, e33, e34, cE, cOE, hcs, hap, killE, deadOf, rwE, cD, cO, consD, gdS, eqB, newC, mkV, storeC, firstN, snocAll, appAll, dropN, repN, putSl, slAt, allL, lvC, softC, ckD, ckO, hcallC, wfC, wfL, wfE, wfV, hP, hk, res51, kp51, dT, dL, rowText, rowLeft, xqS, anM, itM, Int.toNat_natCast, Nat.mul_one, Nat.reduceMul, Int.le_refl, slDf, rqB, q1])
    refine hX rfl rfl ?_
    have hP := hP0; have hk := hk0; have hctr := hctr0
    (refine VT_ok hctr (rs := res51) true 300 _ _ _ ?_; simp (config := { maxSteps := 1000000 }) only [VT, f00, f01, opG_t, opG_f, putG_t, putG_f, VC, appL, repZ, mkFs, newSl, resS, teS, resV, opK, putK, storeK, softS, eqC, eqCs, callS, moveS, loadS, nilS, binV, binS, unS, convS, faS, fldS, iaS, ixS, slS, lenS, buildS, fillS, extS, ifS, capsS, boundS, strLen, minS, maxS, pickS, plainS, oneS, onesS, cellsS, ev, evs, getS, ofVal, takeN, takeAt, layN, nthS, setN, snoc, lenN, unw, memN, trimS, TE.sv, argS, cxOf, lays, ↓reduceIte, reduceCtorEq, Value.oneCell', Nat.reduceEqDiff, Nat.reduceAdd, Nat.reduceLT, Nat.reduceBEq, Nat.reduceSub, Nat.reduceLeDiff, e00, e01, e02, e03, e04, e05, e06, e07, e08, e09, e10, e11, e12, e13, e14, e15, e16, e17, e18, e19, e20, e21, e22, e23, e24, e25, e26, e27, e28, e29, e30, e31, e32, e33, e34, cE, cOE, hcs, hap, killE, deadOf, rwE, cD, cO, consD, gdS, eqB, newC, mkV, storeC, firstN, snocAll, appAll, dropN, repN, putSl, slAt, allL, lvC, softC, ckD, ckO, hcallC, wfC, wfL, wfE, wfV, hP, hk, res51, kp51, dT, dL, rowText, rowLeft, xqS, anM, itM, Int.toNat_natCast, Nat.mul_one, Nat.reduceMul, Int.le_refl, slDf, rqB, q1])
    rw [List.drop_of_length_le (by omega)] at hall
    exact fin false _ (by rw [hall]; rfl)
/-- words told, each behind a space -/
def sp (ws : List (List UInt8)) : List UInt8 := ws.flatMap fun w => 32 :: w
theorem sp_le {r : Mq} {a : An} {now : Int} (hok : RpOk r a now) {much : Bool} {f : List UInt8} (hf : f.length ≤ 5000) : (sp (flagT r a now much f)).length ≤ 5002 := by
  obtain ⟨h1, h2⟩ := flagT_le (much := much) hok hf
  match hl : flagT r a now much f with
  | [] => simp [sp]
  | [x] =>
    rw [hl] at h2
    have := h2 x (by simp)
    simp [sp]; omega
  | x :: y :: t => rw [hl] at h1; simp at h1
def slDt (now : Int) (much : Bool) (out : List UInt8) (j : Nat) : List (Nat × SV) := [(10, .c (.i .i64 (j : Int))), (9, .c (.s out)), (5, .c (.p 1 0)), (4, .c (.p 0 0)), (3, .c (.b much)), (2, .c (.i .i64 now))]
def anB (a : An) : EN := ⟨(38, 0, whole), anM a, true⟩
theorem dtold_w (much : Bool) (hok : RpOk r a now) (hn : X.fn = r.flags.length) (hraw : RawT w X.fa r.flags) : Calls Tryz.prog 42 #[(SV.g (xqS X r)).den (fun _ => reOf 0), (SV.g (anM a)).den (fun _ => reOf 0), .int .i64 now, .bool much] w fun e w' => e = .returned (.string ⟨(toldD r a now much).toArray⟩) ∧ Below w.heap.size w w' := by
  obtain ⟨ca, cn, cc, tk, ar, fa, fn, fc⟩ := X
  have hn : fn = r.flags.length := hn
  have hraw : RawT w fa r.flags := hraw
  have nf := hok.nf
  refine calls_of_Run Tryz.func42 rfl kp42 (S := Non) (ρ := fun _ => reOf 0) (en := []) [.g (xqS ⟨ca, cn, cc, tk, ar, fa, fn, fc⟩ r), .g (anM a), .c (.i .i64 now), .c (.b much)] Tryz.ntmps42 (At.nil _ _ _) (by simp only [List.mem_cons, List.not_mem_nil, or_false, forall_eq_or_imp, forall_eq]; exact ⟨xq_wf _ _ _, anM_wf _ _, trivial, trivial⟩) (by simp) ?_
  intro C hC hP hk
  have hctr := dL_ok hP
  have fin : ∀ l en, toldD r a now much = l → Fin C res42 (.c (.s l)) en := fun l en hl => by subst hl; exact Fin_ro (v := .c (.s (toldD r a now much))) hC hres42 rfl trivial
  (refine VT_ok hctr (rs := res42) true 300 _ _ _ ?_; simp (config := { maxSteps := 1000000 }) only [VT, f00, f01, opG_t, opG_f, putG_t, putG_f, VC, appL, repZ, mkFs, newSl, resS, teS, resV, opK, putK, storeK, softS, eqC, eqCs, callS, moveS, loadS, nilS, binV, binS, unS, convS, faS, fldS, iaS, ixS, slS, lenS, buildS, fillS, extS, ifS, capsS, boundS, strLen, minS, maxS, pickS, plainS, oneS, onesS, cellsS, ev, evs, getS, ofVal, takeN, takeAt, layN, nthS, setN, snoc, lenN, unw, memN, trimS, TE.sv, argS, cxOf, lays, ↓reduceIte, reduceCtorEq, Value.oneCell', Nat.reduceEqDiff, Nat.reduceAdd, Nat.reduceLT, Nat.reduceBEq, Nat.reduceSub, Nat.reduceLeDiff, e00, e01, e02, e03, e04, e05, e06, e07, e08, e09, e10, e11, e12, e13, e14, e15, e16, e17, e18, e19, e20, e21, e22, e23, e24, e25, e26, e27, e28, e29, e30, e31, e32, e33, e34, cE, cOE, hcs, hap, killE, deadOf, rwE, cD, cO, consD, gdS, eqB, newC, mkV, storeC, firstN, snocAll, appAll, dropN, repN, putSl, slAt, allL, lvC, softC, ckD, ckO, hcallC, wfC, wfL, wfE, wfV, hP, hk, res42, kp42, dT, dL, rowText, rowLeft, xqS, anM, itM, Int.toNat_natCast, Nat.mul_one, Nat.reduceMul, Int.le_refl])
  refine Run_loopP (ι := { y : Nat × List UInt8 // y.1 ≤ fn ∧ y.2 = sp ((r.flags.take y.1).flatMap (flagT r a now much)) ∧ y.2.length ≤ 5002 * y.1 }) (fun y => slDt now much y.1.2 y.1.1) (fun _ => [rqB ⟨ca, cn, cc, tk, ar, fa, fn, fc⟩ r, anB a]) (fun y => fn - y.1.1) ⟨(0, []), Nat.zero_le _, rfl, Nat.le_refl _⟩ (sub_mk ⟨rfl, rfl, rfl, rfl, rfl, rfl, trivial⟩) rfl ?_
  rintro ⟨⟨j, out⟩, hj, hout, hol⟩ D dP dS dw dn dr dk ddf dPan dRet hX hJ
  have hP0 := hP; have hk0 := hk; have hctr0 := hctr
  have hP : D.P = Tryz.prog := by rw [dP]; exact hP0
  have hk : D.kp = kp42 := by rw [dk]; exact hk0
  have hctr : CtrOk D dL := dL_ok hP
  simp only at hj hout hol
  show Run D _ _ (slDt now much out j) [rqB ⟨ca, cn, cc, tk, ar, fa, fn, fc⟩ r, anB a]
  by_cases hjn : j < fn
  · obtain ⟨x, hx⟩ : ∃ x, r.flags[j]? = some x := ⟨_, List.getElem?_eq_getElem (by omega)⟩
    obtain ⟨b0, o, ha, hr⟩ := hraw.rd (D := D) (by rw [dS, hC]; rfl) (by rw [dw, hC]; rfl) hx
    subst ha
    have q1 : decide ((j : Int) < (fn : Int)) = true := decide_eq_true (by omega)
    have p0 : (0 : Int) ≤ (j : Int) := by omega
    have p1 : (j : Int) < (fn : Int) := by omega
    have p3 : IntKind.i64.wrap ((j : Int) + 1) = ((j + 1 : Nat) : Int) := by rw [IntWalk.i64_in _ (by omega)]; rfl
    have htk : r.flags.take (j + 1) = r.flags.take j ++ [x] := by rw [List.take_add_one, hx]; rfl
    have hxl := hok.lf x (List.mem_of_getElem? hx)
    have hsl := sp_le (much := much) hok hxl
    have nx : ∀ o2, o2 = out ++ sp (flagT r a now much x) → ∀ s, sub (slDt now much o2 (j + 1)) s → Run D [] 133 s [rqB ⟨ca, cn, cc, tk, ar, some ⟨b0, o, none⟩, fn, fc⟩ r, anB a] := fun o2 ho s hs => by
      exact hJ ⟨(j + 1, o2), by simp only; omega, by simp only; rw [htk, List.flatMap_append, sp, List.flatMap_append, ← sp, ← sp, ← hout, ho]; simp [sp], by simp only; rw [ho, List.length_append]; omega⟩ s (by show fn - (j + 1) < fn - j; omega) hs
    cases x with
    | nil =>
      have c0 : (([] : List UInt8) == []) = true := rfl
      (refine VT_ok hctr (rs := res42) true 300 _ _ _ ?_; simp (config := { maxSteps := 1000000 }) only [VT, f00, f01, opG_t, opG_f, putG_t, putG_f, VC, appL, repZ, mkFs, newSl, resS, teS, resV, opK, putK, storeK, softS, eqC, eqCs, callS, moveS, loadS, nilS, binV, binS, unS, convS, faS, fldS, iaS, ixS, slS, lenS, buildS, fillS, extS, ifS, capsS, boundS, strLen, minS, maxS, pickS, plainS, oneS, onesS, cellsS, ev, evs, getS, ofVal, takeN, takeAt, layN, nthS, setN, snoc, lenN, unw, memN, trimS, TE.sv, argS, cxOf, lays, ↓reduceIte, reduceCtorEq, Value.oneCell', Nat.reduceEqDiff, Nat.reduceAdd, Nat.reduceLT, Nat.reduceBEq, Nat.reduceSub, Nat.reduceLeDiff, e00, e01, e02, e03, e04, e05, e06, e07, e08, e09, e10, e11, e12, e13, e14, e15, e16, e17, e18, e19, e20, e21, e22, e23, e24, e25, e26, e27, e28, e29, e30, e31, e32, e33, e34, cE, cOE, hcs, hap, killE, deadOf, rwE, cD, cO, consD, gdS, eqB, newC, mkV, storeC, firstN, snocAll, appAll, dropN, repN, putSl, slAt, allL, lvC, softC, ckD, ckO, hcallC, wfC, wfL, wfE, wfV, hP, hk, res42, kp42, dT, dL, rowText, rowLeft, xqS, anM, itM, Int.toNat_natCast, Nat.mul_one, Nat.reduceMul, Int.le_refl, slDt, rqB, anB, q1, p0, p1, p3, hr, c0])
      exact nx _ (by simp [flagT, sp]) _ (sub_mk ⟨rfl, rfl, rfl, rfl, rfl, rfl, trivial⟩)
    | cons c s =>
      have c0 : ((c :: s : List UInt8) == []) = false := rfl
      have g0 : (0 : Int) ≤ 0 := by decide
      have g1 : (0 : Int) < ((s.length + 1 : Nat) : Int) := by omega
      have g2 : List.length (c :: s : List UInt8) = s.length + 1 := rfl
      have hgd : (c :: s : List UInt8).getD (0 : Int).toNat 0 = c := rfl
      have lw := hok.lw
      have lc := dec_le20 (n := a.it.cas.toNat) (by have := hok.c1; omega)
      have lf := dec_le20 (n := a.it.flags.toNat) (by have := hok.f1; omega)
      have ls : (Lib.decDigits a.it.val.length).length ≤ 20 := dec_le20 (by have := hok.lv; omega)
      have ll : (leftT a.it now).length ≤ 20 := by
        unfold leftT
        split
        · simp
        · refine dec_le20 ?_
          have := hok.e1
          split <;> omega
      obtain ⟨lt, hlt⟩ : ∃ lt, leftT ⟨a.it.key, a.it.flags, a.it.val, a.it.exp, a.it.cas, a.it.last, a.it.stale, a.it.won⟩ now = lt := ⟨_, rfl⟩
      have hlt2 : leftT a.it now = lt := hlt
      rw [hlt2] at ll
      have k0 := hok.c0
      have k1 := hok.c1
      have k2 := hok.f0
      have k3 : a.it.flags < 18446744073709551616 := by have := hok.f1; omega
      have k4 : IntKind.u64.wrap a.it.flags = a.it.flags := by rw [IntKind.wrap_u64]; omega
      have k5 : (0 : Int) ≤ (a.it.val.length : Int) := by omega
      have k6 : (a.it.val.length : Int) < 18446744073709551616 := by have := hok.lv; omega
      have k7 : IntKind.u64.wrap (a.it.val.length : Int) = (a.it.val.length : Int) := wrap_u64n _ (by have := hok.lv; omega)
      have k8 := hok.e0
      have k9 := hok.e1
      simp only [List.length_cons] at hxl
      by_cases h0 : c = 98
      · have e0 : ((c.toNat : Int) == 98) = true := u8_eq (k := 98) (by decide) h0
        (refine VT_ok hctr (rs := res42) true 300 _ _ _ ?_; simp (config := { maxSteps := 1000000 }) only [VT, f00, f01, opG_t, opG_f, putG_t, putG_f, VC, appL, repZ, mkFs, newSl, resS, teS, resV, opK, putK, storeK, softS, eqC, eqCs, callS, moveS, loadS, nilS, binV, binS, unS, convS, faS, fldS, iaS, ixS, slS, lenS, buildS, fillS, extS, ifS, capsS, boundS, strLen, minS, maxS, pickS, plainS, oneS, onesS, cellsS, ev, evs, getS, ofVal, takeN, takeAt, layN, nthS, setN, snoc, lenN, unw, memN, trimS, TE.sv, argS, cxOf, lays, ↓reduceIte, reduceCtorEq, Value.oneCell', Nat.reduceEqDiff, Nat.reduceAdd, Nat.reduceLT, Nat.reduceBEq, Nat.reduceSub, Nat.reduceLeDiff, e00, e01, e02, e03, e04, e05, e06, e07, e08, e09, e10, e11, e12, e13, e14, e15, e16, e17, e18, e19, e20, e21, e22, e23, e24, e25, e26, e27, e28, e29, e30, e31, e32, e33, e34, cE, cOE, hcs, hap, killE, deadOf, rwE, cD, cO, consD, gdS, eqB, newC, mkV, storeC, firstN, snocAll, appAll, dropN, repN, putSl, slAt, allL, lvC, softC, ckD, ckO, hcallC, wfC, wfL, wfE, wfV, hP, hk, res42, kp42, dT, dL, rowText, rowLeft, xqS, anM, itM, Int.toNat_natCast, Nat.mul_one, Nat.reduceMul, Int.le_refl, slDt, rqB, anB, q1, p0, p1, p3, hr, c0, g0, g1, g2, hgd, k0, k1, k2, k3, k4, k5, k6, k7, k8, k9, hlt, e0])
        repeat (refine ⟨by first | decide | omega | (simp only [List.length_append, List.length_cons, List.length_nil]; omega), ?_⟩)
        exact nx _ (by simp [flagT, sp, sizeT, hlt2, h0]) _ (sub_mk ⟨rfl, rfl, rfl, rfl, rfl, rfl, trivial⟩)
      have d0 : ((c.toNat : Int) == 98) = false := u8_ne (k := 98) h0
      by_cases h1 : c = 107
      · have e1 : ((c.toNat : Int) == 107) = true := u8_eq (k := 107) (by decide) h1
        (refine VT_ok hctr (rs := res42) true 300 _ _ _ ?_; simp (config := { maxSteps := 1000000 }) only [VT, f00, f01, opG_t, opG_f, putG_t, putG_f, VC, appL, repZ, mkFs, newSl, resS, teS, resV, opK, putK, storeK, softS, eqC, eqCs, callS, moveS, loadS, nilS, binV, binS, unS, convS, faS, fldS, iaS, ixS, slS, lenS, buildS, fillS, extS, ifS, capsS, boundS, strLen, minS, maxS, pickS, plainS, oneS, onesS, cellsS, ev, evs, getS, ofVal, takeN, takeAt, layN, nthS, setN, snoc, lenN, unw, memN, trimS, TE.sv, argS, cxOf, lays, ↓reduceIte, reduceCtorEq, Value.oneCell', Nat.reduceEqDiff, Nat.reduceAdd, Nat.reduceLT, Nat.reduceBEq, Nat.reduceSub, Nat.reduceLeDiff, e00, e01, e02, e03, e04, e05, e06, e07, e08, e09, e10, e11, e12, e13, e14, e15, e16, e17, e18, e19, e20, e21, e22, e23, e24, e25, e26, e27, e28, e29, e30, e31, e32, e33, e34, cE, cOE, hcs, hap, killE, deadOf, rwE, cD, cO, consD, gdS, eqB, newC, mkV, storeC, firstN, snocAll, appAll, dropN, repN, putSl, slAt, allL, lvC, softC, ckD, ckO, hcallC, wfC, wfL, wfE, wfV, hP, hk, res42, kp42, dT, dL, rowText, rowLeft, xqS, anM, itM, Int.toNat_natCast, Nat.mul_one, Nat.reduceMul, Int.le_refl, slDt, rqB, anB, q1, p0, p1, p3, hr, c0, g0, g1, g2, hgd, k0, k1, k2, k3, k4, k5, k6, k7, k8, k9, hlt, d0, e1])
        repeat (refine ⟨by first | decide | omega | (simp only [List.length_append, List.length_cons, List.length_nil]; omega), ?_⟩)
        exact nx _ (by simp [flagT, sp, sizeT, hlt2, h0, h1]) _ (sub_mk ⟨rfl, rfl, rfl, rfl, rfl, rfl, trivial⟩)
      have d1 : ((c.toNat : Int) == 107) = false := u8_ne (k := 107) h1
      by_cases h2 : c = 79
      · have e2 : ((c.toNat : Int) == 79) = true := u8_eq (k := 79) (by decide) h2
        (refine VT_ok hctr (rs := res42) true 300 _ _ _ ?_; simp (config := { maxSteps := 1000000 }) only [VT, f00, f01, opG_t, opG_f, putG_t, putG_f, VC, appL, repZ, mkFs, newSl, resS, teS, resV, opK, putK, storeK, softS, eqC, eqCs, callS, moveS, loadS, nilS, binV, binS, unS, convS, faS, fldS, iaS, ixS, slS, lenS, buildS, fillS, extS, ifS, capsS, boundS, strLen, minS, maxS, pickS, plainS, oneS, onesS, cellsS, ev, evs, getS, ofVal, takeN, takeAt, layN, nthS, setN, snoc, lenN, unw, memN, trimS, TE.sv, argS, cxOf, lays, ↓reduceIte, reduceCtorEq, Value.oneCell', Nat.reduceEqDiff, Nat.reduceAdd, Nat.reduceLT, Nat.reduceBEq, Nat.reduceSub, Nat.reduceLeDiff, e00, e01, e02, e03, e04, e05, e06, e07, e08, e09, e10, e11, e12, e13, e14, e15, e16, e17, e18, e19, e20, e21, e22, e23, e24, e25, e26, e27, e28, e29, e30, e31, e32, e33, e34, cE, cOE, hcs, hap, killE, deadOf, rwE, cD, cO, consD, gdS, eqB, newC, mkV, storeC, firstN, snocAll, appAll, dropN, repN, putSl, slAt, allL, lvC, softC, ckD, ckO, hcallC, wfC, wfL, wfE, wfV, hP, hk, res42, kp42, dT, dL, rowText, rowLeft, xqS, anM, itM, Int.toNat_natCast, Nat.mul_one, Nat.reduceMul, Int.le_refl, slDt, rqB, anB, q1, p0, p1, p3, hr, c0, g0, g1, g2, hgd, k0, k1, k2, k3, k4, k5, k6, k7, k8, k9, hlt, d0, d1, e2])
        repeat (refine ⟨by first | decide | omega | (simp only [List.length_append, List.length_cons, List.length_nil]; omega), ?_⟩)
        exact nx _ (by simp [flagT, sp, sizeT, hlt2, h0, h1, h2]) _ (sub_mk ⟨rfl, rfl, rfl, rfl, rfl, rfl, trivial⟩)
      have d2 : ((c.toNat : Int) == 79) = false := u8_ne (k := 79) h2
      cases much with
      | false =>
        by_cases m0 : c = 99
        · have e : ((c.toNat : Int) == 99) = true := u8_eq (k := 99) (by decide) m0
          have z1 : ((c.toNat : Int) == 102) = false := by rw [m0]; rfl
          have z2 : ((c.toNat : Int) == 115) = false := by rw [m0]; rfl
          have z3 : ((c.toNat : Int) == 116) = false := by rw [m0]; rfl
          (refine VT_ok hctr (rs := res42) true 300 _ _ _ ?_; simp (config := { maxSteps := 1000000 }) only [VT, f00, f01, opG_t, opG_f, putG_t, putG_f, VC, appL, repZ, mkFs, newSl, resS, teS, resV, opK, putK, storeK, softS, eqC, eqCs, callS, moveS, loadS, nilS, binV, binS, unS, convS, faS, fldS, iaS, ixS, slS, lenS, buildS, fillS, extS, ifS, capsS, boundS, strLen, minS, maxS, pickS, plainS, oneS, onesS, cellsS, ev, evs, getS, ofVal, takeN, takeAt, layN, nthS, setN, snoc, lenN, unw, memN, trimS, TE.sv, argS, cxOf, lays, ↓reduceIte, reduceCtorEq, Value.oneCell', Nat.reduceEqDiff, Nat.reduceAdd, Nat.reduceLT, Nat.reduceBEq, Nat.reduceSub, Nat.reduceLeDiff, e00, e01, e02, e03, e04, e05, e06, e07, e08, e09, e10, e11, e12, e13, e14, e15, e16, e17, e18, e19, e20, e21, e22, e23, e24, e25, e26, e27, e28, e29, e30, e31, e32, e33, e34, cE, cOE, hcs, hap, killE, deadOf, rwE, cD, cO, consD, gdS, eqB, newC, mkV, storeC, firstN, snocAll, appAll, dropN, repN, putSl, slAt, allL, lvC, softC, ckD, ckO, hcallC, wfC, wfL, wfE, wfV, hP, hk, res42, kp42, dT, dL, rowText, rowLeft, xqS, anM, itM, Int.toNat_natCast, Nat.mul_one, Nat.reduceMul, Int.le_refl, slDt, rqB, anB, q1, p0, p1, p3, hr, c0, g0, g1, g2, hgd, k0, k1, k2, k3, k4, k5, k6, k7, k8, k9, hlt, d0, d1, d2, e, z1, z2, z3])
          repeat (refine ⟨by first | decide | omega | (simp only [List.length_append, List.length_cons, List.length_nil]; omega), ?_⟩)
          exact nx _ (by simp [flagT, sp, h0, h1, h2]) _ (sub_mk ⟨rfl, rfl, rfl, rfl, rfl, rfl, trivial⟩)
        have y0 : ((c.toNat : Int) == 99) = false := u8_ne (k := 99) m0
        by_cases m1 : c = 102
        · have e : ((c.toNat : Int) == 102) = true := u8_eq (k := 102) (by decide) m1
          have z2 : ((c.toNat : Int) == 115) = false := by rw [m1]; rfl
          have z3 : ((c.toNat : Int) == 116) = false := by rw [m1]; rfl
          (refine VT_ok hctr (rs := res42) true 300 _ _ _ ?_; simp (config := { maxSteps := 1000000 }) only [VT, f00, f01, opG_t, opG_f, putG_t, putG_f, VC, appL, repZ, mkFs, newSl, resS, teS, resV, opK, putK, storeK, softS, eqC, eqCs, callS, moveS, loadS, nilS, binV, binS, unS, convS, faS, fldS, iaS, ixS, slS, lenS, buildS, fillS, extS, ifS, capsS, boundS, strLen, minS, maxS, pickS, plainS, oneS, onesS, cellsS, ev, evs, getS, ofVal, takeN, takeAt, layN, nthS, setN, snoc, lenN, unw, memN, trimS, TE.sv, argS, cxOf, lays, ↓reduceIte, reduceCtorEq, Value.oneCell', Nat.reduceEqDiff, Nat.reduceAdd, Nat.reduceLT, Nat.reduceBEq, Nat.reduceSub, Nat.reduceLeDiff, e00, e01, e02, e03, e04, e05, e06, e07, e08, e09, e10, e11, e12, e13, e14, e15, e16, e17, e18, e19, e20, e21, e22, e23, e24, e25, e26, e27, e28, e29, e30, e31, e32, e33, e34, cE, cOE, hcs, hap, killE, deadOf, rwE, cD, cO, consD, gdS, eqB, newC, mkV, storeC, firstN, snocAll, appAll, dropN, repN, putSl, slAt, allL, lvC, softC, ckD, ckO, hcallC, wfC, wfL, wfE, wfV, hP, hk, res42, kp42, dT, dL, rowText, rowLeft, xqS, anM, itM, Int.toNat_natCast, Nat.mul_one, Nat.reduceMul, Int.le_refl, slDt, rqB, anB, q1, p0, p1, p3, hr, c0, g0, g1, g2, hgd, k0, k1, k2, k3, k4, k5, k6, k7, k8, k9, hlt, d0, d1, d2, y0, e, z2, z3])
          repeat (refine ⟨by first | decide | omega | (simp only [List.length_append, List.length_cons, List.length_nil]; omega), ?_⟩)
          exact nx _ (by simp [flagT, sp, h0, h1, h2]) _ (sub_mk ⟨rfl, rfl, rfl, rfl, rfl, rfl, trivial⟩)
        have y1 : ((c.toNat : Int) == 102) = false := u8_ne (k := 102) m1
        by_cases m2 : c = 115
        · have e : ((c.toNat : Int) == 115) = true := u8_eq (k := 115) (by decide) m2
          have z3 : ((c.toNat : Int) == 116) = false := by rw [m2]; rfl
          (refine VT_ok hctr (rs := res42) true 300 _ _ _ ?_; simp (config := { maxSteps := 1000000 }) only [VT, f00, f01, opG_t, opG_f, putG_t, putG_f, VC, appL, repZ, mkFs, newSl, resS, teS, resV, opK, putK, storeK, softS, eqC, eqCs, callS, moveS, loadS, nilS, binV, binS, unS, convS, faS, fldS, iaS, ixS, slS, lenS, buildS, fillS, extS, ifS, capsS, boundS, strLen, minS, maxS, pickS, plainS, oneS, onesS, cellsS, ev, evs, getS, ofVal, takeN, takeAt, layN, nthS, setN, snoc, lenN, unw, memN, trimS, TE.sv, argS, cxOf, lays, ↓reduceIte, reduceCtorEq, Value.oneCell', Nat.reduceEqDiff, Nat.reduceAdd, Nat.reduceLT, Nat.reduceBEq, Nat.reduceSub, Nat.reduceLeDiff, e00, e01, e02, e03, e04, e05, e06, e07, e08, e09, e10, e11, e12, e13, e14, e15, e16, e17, e18, e19, e20, e21, e22, e23, e24, e25, e26, e27, e28, e29, e30, e31, e32, e33, e34, cE, cOE, hcs, hap, killE, deadOf, rwE, cD, cO, consD, gdS, eqB, newC, mkV, storeC, firstN, snocAll, appAll, dropN, repN, putSl, slAt, allL, lvC, softC, ckD, ckO, hcallC, wfC, wfL, wfE, wfV, hP, hk, res42, kp42, dT, dL, rowText, rowLeft, xqS, anM, itM, Int.toNat_natCast, Nat.mul_one, Nat.reduceMul, Int.le_refl, slDt, rqB, anB, q1, p0, p1, p3, hr, c0, g0, g1, g2, hgd, k0, k1, k2, k3, k4, k5, k6, k7, k8, k9, hlt, d0, d1, d2, y0, y1, e, z3])
          repeat (refine ⟨by first | decide | omega | (simp only [List.length_append, List.length_cons, List.length_nil]; omega), ?_⟩)
          exact nx _ (by simp [flagT, sp, h0, h1, h2]) _ (sub_mk ⟨rfl, rfl, rfl, rfl, rfl, rfl, trivial⟩)
        have y2 : ((c.toNat : Int) == 115) = false := u8_ne (k := 115) m2
        by_cases m3 : c = 116
        · have e : ((c.toNat : Int) == 116) = true := u8_eq (k := 116) (by decide) m3
          (refine VT_ok hctr (rs := res42) true 300 _ _ _ ?_; simp (config := { maxSteps := 1000000 }) only [VT, f00, f01, opG_t, opG_f, putG_t, putG_f, VC, appL, repZ, mkFs, newSl, resS, teS, resV, opK, putK, storeK, softS, eqC, eqCs, callS, moveS, loadS, nilS, binV, binS, unS, convS, faS, fldS, iaS, ixS, slS, lenS, buildS, fillS, extS, ifS, capsS, boundS, strLen, minS, maxS, pickS, plainS, oneS, onesS, cellsS, ev, evs, getS, ofVal, takeN, takeAt, layN, nthS, setN, snoc, lenN, unw, memN, trimS, TE.sv, argS, cxOf, lays, ↓reduceIte, reduceCtorEq, Value.oneCell', Nat.reduceEqDiff, Nat.reduceAdd, Nat.reduceLT, Nat.reduceBEq, Nat.reduceSub, Nat.reduceLeDiff, e00, e01, e02, e03, e04, e05, e06, e07, e08, e09, e10, e11, e12, e13, e14, e15, e16, e17, e18, e19, e20, e21, e22, e23, e24, e25, e26, e27, e28, e29, e30, e31, e32, e33, e34, cE, cOE, hcs, hap, killE, deadOf, rwE, cD, cO, consD, gdS, eqB, newC, mkV, storeC, firstN, snocAll, appAll, dropN, repN, putSl, slAt, allL, lvC, softC, ckD, ckO, hcallC, wfC, wfL, wfE, wfV, hP, hk, res42, kp42, dT, dL, rowText, rowLeft, xqS, anM, itM, Int.toNat_natCast, Nat.mul_one, Nat.reduceMul, Int.le_refl, slDt, rqB, anB, q1, p0, p1, p3, hr, c0, g0, g1, g2, hgd, k0, k1, k2, k3, k4, k5, k6, k7, k8, k9, hlt, d0, d1, d2, y0, y1, y2, e])
          repeat (refine ⟨by first | decide | omega | (simp only [List.length_append, List.length_cons, List.length_nil]; omega), ?_⟩)
          exact nx _ (by simp [flagT, sp, h0, h1, h2]) _ (sub_mk ⟨rfl, rfl, rfl, rfl, rfl, rfl, trivial⟩)
        have y3 : ((c.toNat : Int) == 116) = false := u8_ne (k := 116) m3
        (refine VT_ok hctr (rs := res42) true 300 _ _ _ ?_; simp (config := { maxSteps := 1000000 }) only [VT, f00, f01, opG_t, opG_f, putG_t, putG_f, VC, appL, repZ, mkFs, newSl, resS, teS, resV, opK, putK, storeK, softS, eqC, eqCs, callS, moveS, loadS, nilS, binV, binS, unS, convS, faS, fldS, iaS, ixS, slS, lenS, buildS, fillS, extS, ifS, capsS, boundS, strLen, minS, maxS, pickS, plainS, oneS, onesS, cellsS, ev, evs, getS, ofVal, takeN, takeAt, layN, nthS, setN, snoc, lenN, unw, memN, trimS, TE.sv, argS, cxOf, lays, ↓reduceIte, reduceCtorEq, Value.oneCell', Nat.reduceEqDiff, Nat.reduceAdd, Nat.reduceLT, Nat.reduceBEq, Nat.reduceSub, Nat.reduceLeDiff, e00, e01, e02, e03, e04, e05, e06, e07, e08, e09, e10, e11, e12, e13, e14, e15, e16, e17, e18, e19, e20, e21, e22, e23, e24, e25, e26, e27, e28, e29, e30, e31, e32, e33, e34, cE, cOE, hcs, hap, killE, deadOf, rwE, cD, cO, consD, gdS, eqB, newC, mkV, storeC, firstN, snocAll, appAll, dropN, repN, putSl, slAt, allL, lvC, softC, ckD, ckO, hcallC, wfC, wfL, wfE, wfV, hP, hk, res42, kp42, dT, dL, rowText, rowLeft, xqS, anM, itM, Int.toNat_natCast, Nat.mul_one, Nat.reduceMul, Int.le_refl, slDt, rqB, anB, q1, p0, p1, p3, hr, c0, g0, g1, g2, hgd, k0, k1, k2, k3, k4, k5, k6, k7, k8, k9, hlt, d0, d1, d2, y0, y1, y2, y3])
        repeat (refine ⟨by first | decide | omega | (simp only [List.length_append, List.length_cons, List.length_nil]; omega), ?_⟩)
        exact nx _ (by simp [flagT, sp, h0, h1, h2]) _ (sub_mk ⟨rfl, rfl, rfl, rfl, rfl, rfl, trivial⟩)
      | true =>
        by_cases h3 : c = 99
        · have e3 : ((c.toNat : Int) == 99) = true := u8_eq (k := 99) (by decide) h3
          (refine VT_ok hctr (rs := res42) true 300 _ _ _ ?_; simp (config := { maxSteps := 1000000 }) only [VT, f00, f01, opG_t, opG_f, putG_t, putG_f, VC, appL, repZ, mkFs, newSl, resS, teS, resV, opK, putK, storeK, softS, eqC, eqCs, callS, moveS, loadS, nilS, binV, binS, unS, convS, faS, fldS, iaS, ixS, slS, lenS, buildS, fillS, extS, ifS, capsS, boundS, strLen, minS, maxS, pickS, plainS, oneS, onesS, cellsS, ev, evs, getS, ofVal, takeN, takeAt, layN, nthS, setN, snoc, lenN, unw, memN, trimS, TE.sv, argS, cxOf, lays, ↓reduceIte, reduceCtorEq, Value.oneCell', Nat.reduceEqDiff, Nat.reduceAdd, Nat.reduceLT, Nat.reduceBEq, Nat.reduceSub, Nat.reduceLeDiff, e00, e01, e02, e03, e04, e05, e06, e07, e08, e09, e10, e11, e12, e13, e14, e15, e16, e17, e18, e19, e20, e21, e22, e23, e24, e25, e26, e27, e28, e29, e30, e31, e32, e33, e34, cE, cOE, hcs, hap, killE, deadOf, rwE, cD, cO, consD, gdS, eqB, newC, mkV, storeC, firstN, snocAll, appAll, dropN, repN, putSl, slAt, allL, lvC, softC, ckD, ckO, hcallC, wfC, wfL, wfE, wfV, hP, hk, res42, kp42, dT, dL, rowText, rowLeft, xqS, anM, itM, Int.toNat_natCast, Nat.mul_one, Nat.reduceMul, Int.le_refl, slDt, rqB, anB, q1, p0, p1, p3, hr, c0, g0, g1, g2, hgd, k0, k1, k2, k3, k4, k5, k6, k7, k8, k9, hlt, d0, d1, d2, e3])
          repeat (refine ⟨by first | decide | omega | (simp only [List.length_append, List.length_cons, List.length_nil]; omega), ?_⟩)
          exact nx _ (by simp [flagT, sp, sizeT, hlt2, h0, h1, h2, h3]) _ (sub_mk ⟨rfl, rfl, rfl, rfl, rfl, rfl, trivial⟩)
        have d3 : ((c.toNat : Int) == 99) = false := u8_ne (k := 99) h3
        by_cases h4 : c = 102
        · have e4 : ((c.toNat : Int) == 102) = true := u8_eq (k := 102) (by decide) h4
          (refine VT_ok hctr (rs := res42) true 300 _ _ _ ?_; simp (config := { maxSteps := 1000000 }) only [VT, f00, f01, opG_t, opG_f, putG_t, putG_f, VC, appL, repZ, mkFs, newSl, resS, teS, resV, opK, putK, storeK, softS, eqC, eqCs, callS, moveS, loadS, nilS, binV, binS, unS, convS, faS, fldS, iaS, ixS, slS, lenS, buildS, fillS, extS, ifS, capsS, boundS, strLen, minS, maxS, pickS, plainS, oneS, onesS, cellsS, ev, evs, getS, ofVal, takeN, takeAt, layN, nthS, setN, snoc, lenN, unw, memN, trimS, TE.sv, argS, cxOf, lays, ↓reduceIte, reduceCtorEq, Value.oneCell', Nat.reduceEqDiff, Nat.reduceAdd, Nat.reduceLT, Nat.reduceBEq, Nat.reduceSub, Nat.reduceLeDiff, e00, e01, e02, e03, e04, e05, e06, e07, e08, e09, e10, e11, e12, e13, e14, e15, e16, e17, e18, e19, e20, e21, e22, e23, e24, e25, e26, e27, e28, e29, e30, e31, e32, e33, e34, cE, cOE, hcs, hap, killE, deadOf, rwE, cD, cO, consD, gdS, eqB, newC, mkV, storeC, firstN, snocAll, appAll, dropN, repN, putSl, slAt, allL, lvC, softC, ckD, ckO, hcallC, wfC, wfL, wfE, wfV, hP, hk, res42, kp42, dT, dL, rowText, rowLeft, xqS, anM, itM, Int.toNat_natCast, Nat.mul_one, Nat.reduceMul, Int.le_refl, slDt, rqB, anB, q1, p0, p1, p3, hr, c0, g0, g1, g2, hgd, k0, k1, k2, k3, k4, k5, k6, k7, k8, k9, hlt, d0, d1, d2, d3, e4])
          repeat (refine ⟨by first | decide | omega | (simp only [List.length_append, List.length_cons, List.length_nil]; omega), ?_⟩)
          exact nx _ (by simp [flagT, sp, sizeT, hlt2, h0, h1, h2, h3, h4]) _ (sub_mk ⟨rfl, rfl, rfl, rfl, rfl, rfl, trivial⟩)
        have d4 : ((c.toNat : Int) == 102) = false := u8_ne (k := 102) h4
        by_cases h5 : c = 115
        · have e5 : ((c.toNat : Int) == 115) = true := u8_eq (k := 115) (by decide) h5
          (refine VT_ok hctr (rs := res42) true 300 _ _ _ ?_; simp (config := { maxSteps := 1000000 }) only [VT, f00, f01, opG_t, opG_f, putG_t, putG_f, VC, appL, repZ, mkFs, newSl, resS, teS, resV, opK, putK, storeK, softS, eqC, eqCs, callS, moveS, loadS, nilS, binV, binS, unS, convS, faS, fldS, iaS, ixS, slS, lenS, buildS, fillS, extS, ifS, capsS, boundS, strLen, minS, maxS, pickS, plainS, oneS, onesS, cellsS, ev, evs, getS, ofVal, takeN, takeAt, layN, nthS, setN, snoc, lenN, unw, memN, trimS, TE.sv, argS, cxOf, lays, ↓reduceIte, reduceCtorEq, Value.oneCell', Nat.reduceEqDiff, Nat.reduceAdd, Nat.reduceLT, Nat.reduceBEq, Nat.reduceSub, Nat.reduceLeDiff, e00, e01, e02, e03, e04, e05, e06, e07, e08, e09, e10, e11, e12, e13, e14, e15, e16, e17, e18, e19, e20, e21, e22, e23, e24, e25, e26, e27, e28, e29, e30, e31, e32, e33, e34, cE, cOE, hcs, hap, killE, deadOf, rwE, cD, cO, consD, gdS, eqB, newC, mkV, storeC, firstN, snocAll, appAll, dropN, repN, putSl, slAt, allL, lvC, softC, ckD, ckO, hcallC, wfC, wfL, wfE, wfV, hP, hk, res42, kp42, dT, dL, rowText, rowLeft, xqS, anM, itM, Int.toNat_natCast, Nat.mul_one, Nat.reduceMul, Int.le_refl, slDt, rqB, anB, q1, p0, p1, p3, hr, c0, g0, g1, g2, hgd, k0, k1, k2, k3, k4, k5, k6, k7, k8, k9, hlt, d0, d1, d2, d3, d4, e5])
          repeat (refine ⟨by first | decide | omega | (simp only [List.length_append, List.length_cons, List.length_nil]; omega), ?_⟩)
          exact nx _ (by simp [flagT, sp, sizeT, hlt2, h0, h1, h2, h3, h4, h5]) _ (sub_mk ⟨rfl, rfl, rfl, rfl, rfl, rfl, trivial⟩)
        have d5 : ((c.toNat : Int) == 115) = false := u8_ne (k := 115) h5
        by_cases h6 : c = 116
        · have e6 : ((c.toNat : Int) == 116) = true := u8_eq (k := 116) (by decide) h6
          (refine VT_ok hctr (rs := res42) true 300 _ _ _ ?_; simp (config := { maxSteps := 1000000 }) only [VT, f00, f01, opG_t, opG_f, putG_t, putG_f, VC, appL, repZ, mkFs, newSl, resS, teS, resV, opK, putK, storeK, softS, eqC, eqCs, callS, moveS, loadS, nilS, binV, binS, unS, convS, faS, fldS, iaS, ixS, slS, lenS, buildS, fillS, extS, ifS, capsS, boundS, strLen, minS, maxS, pickS, plainS, oneS, onesS, cellsS, ev, evs, getS, ofVal, takeN, takeAt, layN, nthS, setN, snoc, lenN, unw, memN, trimS, TE.sv, argS, cxOf, lays, ↓reduceIte, reduceCtorEq, Value.oneCell', Nat.reduceEqDiff, Nat.reduceAdd, Nat.reduceLT, Nat.reduceBEq, Nat.reduceSub, Nat.reduceLeDiff, e00, e01, e02, e03, e04, e05, e06, e07, e08, e09, e10, e11, e12, e13, e14, e15, e16, e17, e18, e19, e20, e21, e22, e23, e24, e25, e26, e27, e28, e29, e30, e31, e32, e33, e34, cE, cOE, hcs, hap, killE, deadOf, rwE, cD, cO, consD, gdS, eqB, newC, mkV, storeC, firstN, snocAll, appAll, dropN, repN, putSl, slAt, allL, lvC, softC, ckD, ckO, hcallC, wfC, wfL, wfE, wfV, hP, hk, res42, kp42, dT, dL, rowText, rowLeft, xqS, anM, itM, Int.toNat_natCast, Nat.mul_one, Nat.reduceMul, Int.le_refl, slDt, rqB, anB, q1, p0, p1, p3, hr, c0, g0, g1, g2, hgd, k0, k1, k2, k3, k4, k5, k6, k7, k8, k9, hlt, d0, d1, d2, d3, d4, d5, e6])
          repeat (refine ⟨by first | decide | omega | (simp only [List.length_append, List.length_cons, List.length_nil]; omega), ?_⟩)
          exact nx _ (by simp [flagT, sp, sizeT, hlt2, h0, h1, h2, h3, h4, h5, h6]) _ (sub_mk ⟨rfl, rfl, rfl, rfl, rfl, rfl, trivial⟩)
        have d6 : ((c.toNat : Int) == 116) = false := u8_ne (k := 116) h6
        (refine VT_ok hctr (rs := res42) true 300 _ _ _ ?_; simp (config := { maxSteps := 1000000 }) only [VT, f00, f01, opG_t, opG_f, putG_t, putG_f, VC, appL, repZ, mkFs, newSl, resS, teS, resV, opK, putK, storeK, softS, eqC, eqCs, callS, moveS, loadS, nilS, binV, binS, unS, convS, faS, fldS, iaS, ixS, slS, lenS, buildS, fillS, extS, ifS, capsS, boundS, strLen, minS, maxS, pickS, plainS, oneS, onesS, cellsS, ev, evs, getS, ofVal, takeN, takeAt, layN, nthS, setN, snoc, lenN, unw, memN, trimS, TE.sv, argS, cxOf, lays, ↓reduceIte, reduceCtorEq, Value.oneCell', Nat.reduceEqDiff, Nat.reduceAdd, Nat.reduceLT, Nat.reduceBEq, Nat.reduceSub, Nat.reduceLeDiff, e00, e01, e02, e03, e04, e05, e06, e07, e08, e09, e10, e11, e12, e13, e14, e15, e16, e17, e18, e19, e20, e21, e22, e23, e24, e25, e26, e27, e28, e29, e30, e31, e32, e33, e34, cE, cOE, hcs, hap, killE, deadOf, rwE, cD, cO, consD, gdS, eqB, newC, mkV, storeC, firstN, snocAll, appAll, dropN, repN, putSl, slAt, allL, lvC, softC, ckD, ckO, hcallC, wfC, wfL, wfE, wfV, hP, hk, res42, kp42, dT, dL, rowText, rowLeft, xqS, anM, itM, Int.toNat_natCast, Nat.mul_one, Nat.reduceMul, Int.le_refl, slDt, rqB, anB, q1, p0, p1, p3, hr, c0, g0, g1, g2, hgd, k0, k1, k2, k3, k4, k5, k6, k7, k8, k9, hlt, d0, d1, d2, d3, d4, d5, d6])
        repeat (refine ⟨by first | decide | omega | (simp only [List.length_append, List.length_cons, List.length_nil]; omega), ?_⟩)
        exact nx _ (by simp [flagT, sp, h0, h1, h2, h3, h4, h5, h6]) _ (sub_mk ⟨rfl, rfl, rfl, rfl, rfl, rfl, trivial⟩)
  · have q1 : decide ((j : Int) < (fn : Int)) = false := decide_eq_false (by omega)
    have hjn' : j = fn := by omega
    (refine VT_ok hctr (rs := res42) true 300 _ _ _ ?_; simp (config := { maxSteps := 1000000 }) only [VT, f00, f01, opG_t, opG_f, putG_t, putG_f, VC, appL, repZ, mkFs, newSl, resS, teS, resV, opK, putK, storeK, softS, eqC, eqCs, callS, moveS, loadS, nilS, binV, binS, unS, convS, faS, fldS, iaS, ixS, slS, lenS, buildS, fillS, extS, ifS, capsS, boundS, strLen, minS, maxS, pickS, plainS, oneS, onesS, cellsS, ev, evs, getS, ofVal, takeN, takeAt, layN, nthS, setN, snoc, lenN, unw, memN, trimS, TE.sv, argS, cxOf, lays, ↓reduceIte, reduceCtorEq, Value.oneCell', Nat.reduceEqDiff, Nat.reduceAdd, Nat.reduceLT, Nat.reduceBEq, Nat.reduceSub, Nat.reduceLeDiff, e00, e01, e02, e03, e04, e05, e06, e07, e08, e09, e10, e11, e12, e13, e14, e15, e16, e17, e18, e19, e20, e21, e22, e23, e24, e25, e26, e27, e28, e29, e30, e31, e32, e33, e34, cE, cOE, hcs, hap, killE, deadOf, rwE, cD, cO, consD, gdS, eqB, newC, mkV, storeC, firstN, snocAll, appAll, dropN, repN, putSl, slAt, allL, lvC, softC, ckD, ckO, hcallC, wfC, wfL, wfE, wfV, hP, hk, res42, kp42, dT, dL, rowText, rowLeft, xqS, anM, itM, Int.toNat_natCast, Nat.mul_one, Nat.reduceMul, Int.le_refl, slDt, rqB, anB, q1])
    refine hX rfl rfl ?_
    have hP := hP0; have hk := hk0; have hctr := hctr0
    have ho2 : out = sp (r.flags.flatMap (flagT r a now much)) := by rw [hout, hjn', List.take_of_length_le (by omega)]
    have hfin : ∀ l, l = out ++ sp (marksT a much) ++ crlf → toldD r a now much = l := fun l hl => by
      rw [hl, ho2]; simp [toldD, sp]
    obtain ⟨st, it, num, mw, mx, mz⟩ := a
    cases much with
    | false =>
      (refine VT_ok hctr (rs := res42) true 300 _ _ _ ?_; simp (config := { maxSteps := 1000000 }) only [VT, f00, f01, opG_t, opG_f, putG_t, putG_f, VC, appL, repZ, mkFs, newSl, resS, teS, resV, opK, putK, storeK, softS, eqC, eqCs, callS, moveS, loadS, nilS, binV, binS, unS, convS, faS, fldS, iaS, ixS, slS, lenS, buildS, fillS, extS, ifS, capsS, boundS, strLen, minS, maxS, pickS, plainS, oneS, onesS, cellsS, ev, evs, getS, ofVal, takeN, takeAt, layN, nthS, setN, snoc, lenN, unw, memN, trimS, TE.sv, argS, cxOf, lays, ↓reduceIte, reduceCtorEq, Value.oneCell', Nat.reduceEqDiff, Nat.reduceAdd, Nat.reduceLT, Nat.reduceBEq, Nat.reduceSub, Nat.reduceLeDiff, e00, e01, e02, e03, e04, e05, e06, e07, e08, e09, e10, e11, e12, e13, e14, e15, e16, e17, e18, e19, e20, e21, e22, e23, e24, e25, e26, e27, e28, e29, e30, e31, e32, e33, e34, cE, cOE, hcs, hap, killE, deadOf, rwE, cD, cO, consD, gdS, eqB, newC, mkV, storeC, firstN, snocAll, appAll, dropN, repN, putSl, slAt, allL, lvC, softC, ckD, ckO, hcallC, wfC, wfL, wfE, wfV, hP, hk, res42, kp42, dT, dL, rowText, rowLeft, xqS, anM, itM, Int.toNat_natCast, Nat.mul_one, Nat.reduceMul, Int.le_refl, slDt, rqB, anB])
      repeat (refine ⟨by first | decide | omega | (simp only [List.length_append, List.length_cons, List.length_nil]; omega), ?_⟩)
      exact fin _ _ (hfin _ (by simp [marksT, sp, crlf]))
    | true =>
      cases mw <;> cases mx <;> cases mz
      all_goals
        (refine VT_ok hctr (rs := res42) true 300 _ _ _ ?_; simp (config := { maxSteps := 1000000 }) only [VT, f00, f01, opG_t, opG_f, putG_t, putG_f, VC, appL, repZ, mkFs, newSl, resS, teS, resV, opK, putK, storeK, softS, eqC, eqCs, callS, moveS, loadS, nilS, binV, binS, unS, convS, faS, fldS, iaS, ixS, slS, lenS, buildS, fillS, extS, ifS, capsS, boundS, strLen, minS, maxS, pickS, plainS, oneS, onesS, cellsS, ev, evs, getS, ofVal, takeN, takeAt, layN, nthS, setN, snoc, lenN, unw, memN, trimS, TE.sv, argS, cxOf, lays, ↓reduceIte, reduceCtorEq, Value.oneCell', Nat.reduceEqDiff, Nat.reduceAdd, Nat.reduceLT, Nat.reduceBEq, Nat.reduceSub, Nat.reduceLeDiff, e00, e01, e02, e03, e04, e05, e06, e07, e08, e09, e10, e11, e12, e13, e14, e15, e16, e17, e18, e19, e20, e21, e22, e23, e24, e25, e26, e27, e28, e29, e30, e31, e32, e33, e34, cE, cOE, hcs, hap, killE, deadOf, rwE, cD, cO, consD, gdS, eqB, newC, mkV, storeC, firstN, snocAll, appAll, dropN, repN, putSl, slAt, allL, lvC, softC, ckD, ckO, hcallC, wfC, wfL, wfE, wfV, hP, hk, res42, kp42, dT, dL, rowText, rowLeft, xqS, anM, itM, Int.toNat_natCast, Nat.mul_one, Nat.reduceMul, Int.le_refl, slDt, rqB, anB])
        repeat (refine ⟨by first | decide | omega | (simp only [List.length_append, List.length_cons, List.length_nil]; omega), ?_⟩)
        exact fin _ _ (hfin _ (by simp [marksT, sp, crlf]))
end
end Go.Proofs.YtlaagebdbcmckaaGreatDoor
