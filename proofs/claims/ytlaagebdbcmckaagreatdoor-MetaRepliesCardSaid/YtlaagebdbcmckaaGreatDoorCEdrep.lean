/- The document's fine, miss, Reply (ambryref21), walked. Printed by gen_edrep.py. -/
import Derived.Test.YtlaagebdbcmckaaGreatDoorCEdref
namespace Go.Proofs.YtlaagebdbcmckaaGreatDoor
set_option linter.unusedSimpArgs false
set_option linter.unusedVariables false
set_option linter.unusedSimpArgs false
set_option linter.unusedVariables false
set_option maxHeartbeats 8000000
open Go.RowKit
set_option maxRecDepth 100000

section
variable {X : Xq} {r : Mq} {a : An} {now : Int} {w : World}
theorem toldD_le (hok : RpOk r a now) (much : Bool) : (toldD r a now much).length ≤ 25010008 := by
  have h : ∀ l : List (List UInt8), (∀ f ∈ l, f.length ≤ 5000) → (sp (l.flatMap (flagT r a now much))).length ≤ 5002 * l.length := by
    intro l
    induction l with
    | nil => intro _; simp [sp]
    | cons f l ih =>
      intro hl
      have h1 := sp_le (much := much) hok (hl f (by simp))
      have h2 := ih fun g hg => hl g (by simp [hg])
      rw [List.flatMap_cons, sp, List.flatMap_append, ← sp, ← sp, List.length_append, List.length_cons]
      omega
  have h1 := h r.flags hok.lf
  have nf := hok.nf
  have h2 : (sp (marksT a much)).length ≤ 6 := by
    unfold marksT
    cases much <;> cases a.w <;> cases a.x <;> cases a.z <;> simp [sp]
  have e : toldD r a now much = sp (r.flags.flatMap (flagT r a now much)) ++ sp (marksT a much) ++ crlf := by simp [toldD, sp]
  have hc : crlf.length = 2 := rfl
  rw [e, List.length_append, List.length_append, hc]
  omega
def rowDflag (X : Xq) (r : Mq) : List SV → Option (Prop × SV)
  | [.g l, .c (.i .u8 118)] => some (l = xqS X r, .c (.b (hasF r 118)))
  | _ => none
def rowDtold (X : Xq) (r : Mq) (a : An) (now : Int) : List SV → Option (Prop × SV)
  | [.g l, .g m, .c (.i .i64 n), .c (.b much)] => some (l = xqS X r ∧ m = anM a ∧ n = now, .c (.s (toldD r a now much)))
  | _ => none
def rowDall (f : Mq → An → Int → List UInt8) (X : Xq) (r : Mq) (a : An) (now : Int) : List SV → Option (Prop × SV)
  | [.g l, .g m, .c (.i .i64 n)] => some (l = xqS X r ∧ m = anM a ∧ n = now, .c (.s (f r a now)))
  | _ => none
def dR (X : Xq) (r : Mq) (a : An) (now : Int) : Ctr := fun f en xs => match f with
  | 51 => rowDflag X r xs
  | 42 => rowDtold X r a now xs
  | _ => dL f en xs
def dO (X : Xq) (r : Mq) (a : An) (now : Int) : Ctr := fun f en xs => match f with
  | 41 => rowDall fineD X r a now xs
  | 38 => rowDall missD X r a now xs
  | _ => dR X r a now f en xs
theorem dR_ok {C : Cx} (hP : C.P = Tryz.prog) (hok : RpOk r a now) (hn : X.fn = r.flags.length) (hF : ∀ w, Upd C.S C.w0 w → RawT w X.fa r.flags) : CtrOk C (dR X r a now) := by
  intro f en xs p v h hp ρ w hup hHp hHo hinj hwf
  unfold dR at h
  split at h
  · rw [hP]
    refine ⟨fun args w => Tryz.call51 args w, ?_⟩
    unfold rowDflag at h
    split at h <;> simp only [Option.some.injEq, Prod.mk.injEq, reduceCtorEq] at h
    obtain ⟨rfl, rfl⟩ := h
    subst hp
    exact ⟨trivial, dflag_w hok.nf hn (hF w hup)⟩
  · rw [hP]
    refine ⟨fun args w => Tryz.call42 args w, ?_⟩
    unfold rowDtold at h
    split at h <;> simp only [Option.some.injEq, Prod.mk.injEq, reduceCtorEq] at h
    obtain ⟨rfl, rfl⟩ := h
    obtain ⟨rfl, rfl, rfl⟩ := hp
    exact ⟨trivial, dtold_w _ hok hn (hF w hup)⟩
  · exact dL_ok hP f en xs p v h hp ρ w hup hHp hHo hinj hwf
theorem dfine_w (hok : RpOk r a now) (hv9 : a.it.val.length ≤ 9000000000000000000) (hn : X.fn = r.flags.length) (hraw : RawT w X.fa r.flags) : Calls Tryz.prog 41 #[(SV.g (xqS X r)).den (fun _ => reOf 0), (SV.g (anM a)).den (fun _ => reOf 0), .int .i64 now] w fun e w' => e = .returned (.string ⟨(fineD r a now).toArray⟩) ∧ Below w.heap.size w w' := by
  refine calls_of_Run Tryz.func41 rfl kp41 (S := Non) (ρ := fun _ => reOf 0) (en := []) [.g (xqS X r), .g (anM a), .c (.i .i64 now)] Tryz.ntmps41 (At.nil _ _ _) (by simp only [List.mem_cons, List.not_mem_nil, or_false, forall_eq_or_imp, forall_eq]; exact ⟨xq_wf _ _ _, anM_wf _ _, trivial⟩) (by simp) ?_
  intro C hC hP hk
  have hF : ∀ w', Upd C.S C.w0 w' → RawT w' X.fa r.flags := fun w' hu => by rw [hC] at hu; exact hraw.upd hu
  have hctr := dR_ok (X := X) hP hok hn hF
  have fin : ∀ l en, fineD r a now = l → Fin C res41 (.c (.s l)) en := fun l en hl => by subst hl; exact Fin_ro (v := .c (.s (fineD r a now))) hC hres41 rfl trivial
  have lt := toldD_le hok true
  have lf := toldD_le hok false
  have ls : (Lib.decDigits a.it.val.length).length ≤ 20 := dec_le20 (by have := hok.lv; omega)
  have k5 : (0 : Int) ≤ (a.it.val.length : Int) := by omega
  have k6 : (a.it.val.length : Int) < 18446744073709551616 := by have := hok.lv; omega
  have k7 : IntKind.u64.wrap (a.it.val.length : Int) = (a.it.val.length : Int) := wrap_u64n _ (by have := hok.lv; omega)
  by_cases n1 : r.name = [109, 103]
  · have g1 : (r.name == [109, 103]) = true := by rw [n1]; rfl
    have g4 : (r.name == [109, 97]) = false := by rw [n1]; rfl
    cases hv : hasF r 118 with
    | true =>
      (refine VT_ok hctr (rs := res41) true 300 _ _ _ ?_; simp (config := { maxSteps := 1000000 }) only [VT, f00, f01, opG_t, opG_f, putG_t, putG_f, VC, appL, repZ, mkFs, newSl, resS, teS, resV, opK, putK, storeK, softS, eqC, eqCs, callS, moveS, loadS, nilS, binV, binS, unS, convS, faS, fldS, iaS, ixS, slS, lenS, buildS, fillS, extS, ifS, capsS, boundS, strLen, minS, maxS, pickS, plainS, oneS, onesS, cellsS, ev, evs, getS, ofVal, takeN, takeAt, layN, nthS, setN, snoc, lenN, unw, memN, trimS, TE.sv, argS, cxOf, lays, ↓reduceIte, reduceCtorEq, Value.oneCell', Nat.reduceEqDiff, Nat.reduceAdd, Nat.reduceLT, Nat.reduceBEq, Nat.reduceSub, Nat.reduceLeDiff, e00, e01, e02, e03, e04, e05, e06, e07, e08, e09, e10, e11, e12, e13, e14, e15, e16, e17, e18, e19, e20, e21, e22, e23, e24, e25, e26, e27, e28, e29, e30, e31, e32, e33, e34, cE, cOE, hcs, hap, killE, deadOf, rwE, cD, cO, consD, gdS, eqB, newC, mkV, storeC, firstN, snocAll, appAll, dropN, repN, putSl, slAt, allL, lvC, softC, ckD, ckO, hcallC, wfC, wfL, wfE, wfV, hP, hk, res41, kp41, dO, dR, dL, dT, rowText, rowLeft, rowDflag, rowDtold, rowDall, xqS, anM, itM, Int.toNat_natCast, Nat.mul_one, Nat.reduceMul, Int.le_refl, k5, k6, k7, g1, g4, hv])
      (refine Run_drawD hctr (by rw [hP]; rfl) rs41_4 [] (ensure_type_of% (Cmp.of (by simp (config := { maxSteps := 1000000 }) only [VC, appL, repZ, mkFs, newSl, resS, teS, resV, opK, putK, storeK, softS, eqC, eqCs, callS, moveS, loadS, nilS, binV, binS, unS, convS, faS, fldS, iaS, ixS, slS, lenS, buildS, fillS, extS, ifS, capsS, boundS, strLen, minS, maxS, pickS, plainS, oneS, onesS, cellsS, ev, evs, getS, ofVal, takeN, takeAt, layN, nthS, setN, snoc, lenN, unw, memN, trimS, TE.sv, argS, cxOf, lays, ↓reduceIte, reduceCtorEq, Value.oneCell', Nat.reduceEqDiff, Nat.reduceAdd, Nat.reduceLT, Nat.reduceBEq, Nat.reduceSub, Nat.reduceLeDiff, e00, e01, e02, e03, e04, e05, e06, e07, e08, e09, e10, e11, e12, e13, e14, e15, e16, e17, e18, e19, e20, e21, e22, e23, e24, e25, e26, e27, e28, e29, e30, e31, e32, e33, e34, cE, cOE, hcs, hap, killE, deadOf, rwE, cD, cO, consD, gdS, eqB, newC, mkV, storeC, firstN, snocAll, appAll, dropN, repN, putSl, slAt, allL, lvC, softC, ckD, ckO, hcallC, wfC, wfL, wfE, wfV, hP, dO, dR, dL, dT, rowText, rowLeft, rowDflag, rowDtold, rowDall, xqS, anM, itM, Int.toNat_natCast, Nat.mul_one, Nat.reduceMul, Int.le_refl, k5, k6, k7, g1, g4, hv]; rfl)) "" Cmp.mk) (by kernel_rfl) (by kernel_rfl) (by first | exact lenB_one _ | kernel_rfl) (by kernel_rfl) (by rfl) (by rfl) (by first | exact firstN_self _ | rfl) (by rfl) ?_ ?_; rotate_left; refine VT_ok hctr (rs := res41) true 300 _ _ _ ?_; simp (config := { maxSteps := 1000000 }) only [VT, f00, f01, opG_t, opG_f, putG_t, putG_f, VC, appL, repZ, mkFs, newSl, resS, teS, resV, opK, putK, storeK, softS, eqC, eqCs, callS, moveS, loadS, nilS, binV, binS, unS, convS, faS, fldS, iaS, ixS, slS, lenS, buildS, fillS, extS, ifS, capsS, boundS, strLen, minS, maxS, pickS, plainS, oneS, onesS, cellsS, ev, evs, getS, ofVal, takeN, takeAt, layN, nthS, setN, snoc, lenN, unw, memN, trimS, TE.sv, argS, cxOf, lays, ↓reduceIte, reduceCtorEq, Value.oneCell', Nat.reduceEqDiff, Nat.reduceAdd, Nat.reduceLT, Nat.reduceBEq, Nat.reduceSub, Nat.reduceLeDiff, e00, e01, e02, e03, e04, e05, e06, e07, e08, e09, e10, e11, e12, e13, e14, e15, e16, e17, e18, e19, e20, e21, e22, e23, e24, e25, e26, e27, e28, e29, e30, e31, e32, e33, e34, cE, cOE, hcs, hap, killE, deadOf, rwE, cD, cO, consD, gdS, eqB, newC, mkV, storeC, firstN, snocAll, appAll, dropN, repN, putSl, slAt, allL, lvC, softC, ckD, ckO, hcallC, wfC, wfL, wfE, wfV, hP, hk, res41, kp41, dO, dR, dL, dT, rowText, rowLeft, rowDflag, rowDtold, rowDall, xqS, anM, itM, Int.toNat_natCast, Nat.mul_one, Nat.reduceMul, Int.le_refl, k5, k6, k7, g1, g4, hv]; rotate_left; simp (config := { maxSteps := 1000000 }) only [VC, appL, repZ, mkFs, newSl, resS, teS, resV, opK, putK, storeK, softS, eqC, eqCs, callS, moveS, loadS, nilS, binV, binS, unS, convS, faS, fldS, iaS, ixS, slS, lenS, buildS, fillS, extS, ifS, capsS, boundS, strLen, minS, maxS, pickS, plainS, oneS, onesS, cellsS, ev, evs, getS, ofVal, takeN, takeAt, layN, nthS, setN, snoc, lenN, unw, memN, trimS, TE.sv, argS, cxOf, lays, ↓reduceIte, reduceCtorEq, Value.oneCell', Nat.reduceEqDiff, Nat.reduceAdd, Nat.reduceLT, Nat.reduceBEq, Nat.reduceSub, Nat.reduceLeDiff, e00, e01, e02, e03, e04, e05, e06, e07, e08, e09, e10, e11, e12, e13, e14, e15, e16, e17, e18, e19, e20, e21, e22, e23, e24, e25, e26, e27, e28, e29, e30, e31, e32, e33, e34, cE, cOE, hcs, hap, killE, deadOf, rwE, cD, cO, consD, gdS, eqB, newC, mkV, storeC, firstN, snocAll, appAll, dropN, repN, putSl, slAt, allL, lvC, softC, ckD, ckO, hcallC, wfC, wfL, wfE, wfV, hP, dO, dR, dL, dT, rowText, rowLeft, rowDflag, rowDtold, rowDall, xqS, anM, itM, Int.toNat_natCast, Nat.mul_one, Nat.reduceMul, Int.le_refl, k5, k6, k7, g1, g4, hv])
      · simp only [List.length_append, List.length_cons, List.length_nil]; omega
      exact fin _ _ (by simp [fineD, sizeT, m_mg, m_ma, crlf, n1, hv])
    | false =>
      cases hq : r.quiet
      all_goals
        (refine VT_ok hctr (rs := res41) true 300 _ _ _ ?_; simp (config := { maxSteps := 1000000 }) only [VT, f00, f01, opG_t, opG_f, putG_t, putG_f, VC, appL, repZ, mkFs, newSl, resS, teS, resV, opK, putK, storeK, softS, eqC, eqCs, callS, moveS, loadS, nilS, binV, binS, unS, convS, faS, fldS, iaS, ixS, slS, lenS, buildS, fillS, extS, ifS, capsS, boundS, strLen, minS, maxS, pickS, plainS, oneS, onesS, cellsS, ev, evs, getS, ofVal, takeN, takeAt, layN, nthS, setN, snoc, lenN, unw, memN, trimS, TE.sv, argS, cxOf, lays, ↓reduceIte, reduceCtorEq, Value.oneCell', Nat.reduceEqDiff, Nat.reduceAdd, Nat.reduceLT, Nat.reduceBEq, Nat.reduceSub, Nat.reduceLeDiff, e00, e01, e02, e03, e04, e05, e06, e07, e08, e09, e10, e11, e12, e13, e14, e15, e16, e17, e18, e19, e20, e21, e22, e23, e24, e25, e26, e27, e28, e29, e30, e31, e32, e33, e34, cE, cOE, hcs, hap, killE, deadOf, rwE, cD, cO, consD, gdS, eqB, newC, mkV, storeC, firstN, snocAll, appAll, dropN, repN, putSl, slAt, allL, lvC, softC, ckD, ckO, hcallC, wfC, wfL, wfE, wfV, hP, hk, res41, kp41, dO, dR, dL, dT, rowText, rowLeft, rowDflag, rowDtold, rowDall, xqS, anM, itM, Int.toNat_natCast, Nat.mul_one, Nat.reduceMul, Int.le_refl, k5, k6, k7, g1, g4, hv, hq, Bool.not_true])
        repeat (refine ⟨by first | decide | omega | (simp only [List.length_append, List.length_cons, List.length_nil]; omega), ?_⟩)
        exact fin _ _ (by simp [fineD, sizeT, m_mg, m_ma, crlf, n1, hv])
  have g1 : (r.name == [109, 103]) = false := by simpa using n1
  by_cases n4 : r.name = [109, 97]
  · have g4 : (r.name == [109, 97]) = true := by rw [n4]; rfl
    cases hv : hasF r 118 with
    | true =>
      (refine VT_ok hctr (rs := res41) true 300 _ _ _ ?_; simp (config := { maxSteps := 1000000 }) only [VT, f00, f01, opG_t, opG_f, putG_t, putG_f, VC, appL, repZ, mkFs, newSl, resS, teS, resV, opK, putK, storeK, softS, eqC, eqCs, callS, moveS, loadS, nilS, binV, binS, unS, convS, faS, fldS, iaS, ixS, slS, lenS, buildS, fillS, extS, ifS, capsS, boundS, strLen, minS, maxS, pickS, plainS, oneS, onesS, cellsS, ev, evs, getS, ofVal, takeN, takeAt, layN, nthS, setN, snoc, lenN, unw, memN, trimS, TE.sv, argS, cxOf, lays, ↓reduceIte, reduceCtorEq, Value.oneCell', Nat.reduceEqDiff, Nat.reduceAdd, Nat.reduceLT, Nat.reduceBEq, Nat.reduceSub, Nat.reduceLeDiff, e00, e01, e02, e03, e04, e05, e06, e07, e08, e09, e10, e11, e12, e13, e14, e15, e16, e17, e18, e19, e20, e21, e22, e23, e24, e25, e26, e27, e28, e29, e30, e31, e32, e33, e34, cE, cOE, hcs, hap, killE, deadOf, rwE, cD, cO, consD, gdS, eqB, newC, mkV, storeC, firstN, snocAll, appAll, dropN, repN, putSl, slAt, allL, lvC, softC, ckD, ckO, hcallC, wfC, wfL, wfE, wfV, hP, hk, res41, kp41, dO, dR, dL, dT, rowText, rowLeft, rowDflag, rowDtold, rowDall, xqS, anM, itM, Int.toNat_natCast, Nat.mul_one, Nat.reduceMul, Int.le_refl, k5, k6, k7, g1, g4, hv])
      (refine Run_drawD hctr (by rw [hP]; rfl) rs41_4 [] (ensure_type_of% (Cmp.of (by simp (config := { maxSteps := 1000000 }) only [VC, appL, repZ, mkFs, newSl, resS, teS, resV, opK, putK, storeK, softS, eqC, eqCs, callS, moveS, loadS, nilS, binV, binS, unS, convS, faS, fldS, iaS, ixS, slS, lenS, buildS, fillS, extS, ifS, capsS, boundS, strLen, minS, maxS, pickS, plainS, oneS, onesS, cellsS, ev, evs, getS, ofVal, takeN, takeAt, layN, nthS, setN, snoc, lenN, unw, memN, trimS, TE.sv, argS, cxOf, lays, ↓reduceIte, reduceCtorEq, Value.oneCell', Nat.reduceEqDiff, Nat.reduceAdd, Nat.reduceLT, Nat.reduceBEq, Nat.reduceSub, Nat.reduceLeDiff, e00, e01, e02, e03, e04, e05, e06, e07, e08, e09, e10, e11, e12, e13, e14, e15, e16, e17, e18, e19, e20, e21, e22, e23, e24, e25, e26, e27, e28, e29, e30, e31, e32, e33, e34, cE, cOE, hcs, hap, killE, deadOf, rwE, cD, cO, consD, gdS, eqB, newC, mkV, storeC, firstN, snocAll, appAll, dropN, repN, putSl, slAt, allL, lvC, softC, ckD, ckO, hcallC, wfC, wfL, wfE, wfV, hP, dO, dR, dL, dT, rowText, rowLeft, rowDflag, rowDtold, rowDall, xqS, anM, itM, Int.toNat_natCast, Nat.mul_one, Nat.reduceMul, Int.le_refl, k5, k6, k7, g1, g4, hv]; rfl)) "" Cmp.mk) (by kernel_rfl) (by kernel_rfl) (by first | exact lenB_one _ | kernel_rfl) (by kernel_rfl) (by rfl) (by rfl) (by first | exact firstN_self _ | rfl) (by rfl) ?_ ?_; rotate_left; refine VT_ok hctr (rs := res41) true 300 _ _ _ ?_; simp (config := { maxSteps := 1000000 }) only [VT, f00, f01, opG_t, opG_f, putG_t, putG_f, VC, appL, repZ, mkFs, newSl, resS, teS, resV, opK, putK, storeK, softS, eqC, eqCs, callS, moveS, loadS, nilS, binV, binS, unS, convS, faS, fldS, iaS, ixS, slS, lenS, buildS, fillS, extS, ifS, capsS, boundS, strLen, minS, maxS, pickS, plainS, oneS, onesS, cellsS, ev, evs, getS, ofVal, takeN, takeAt, layN, nthS, setN, snoc, lenN, unw, memN, trimS, TE.sv, argS, cxOf, lays, ↓reduceIte, reduceCtorEq, Value.oneCell', Nat.reduceEqDiff, Nat.reduceAdd, Nat.reduceLT, Nat.reduceBEq, Nat.reduceSub, Nat.reduceLeDiff, e00, e01, e02, e03, e04, e05, e06, e07, e08, e09, e10, e11, e12, e13, e14, e15, e16, e17, e18, e19, e20, e21, e22, e23, e24, e25, e26, e27, e28, e29, e30, e31, e32, e33, e34, cE, cOE, hcs, hap, killE, deadOf, rwE, cD, cO, consD, gdS, eqB, newC, mkV, storeC, firstN, snocAll, appAll, dropN, repN, putSl, slAt, allL, lvC, softC, ckD, ckO, hcallC, wfC, wfL, wfE, wfV, hP, hk, res41, kp41, dO, dR, dL, dT, rowText, rowLeft, rowDflag, rowDtold, rowDall, xqS, anM, itM, Int.toNat_natCast, Nat.mul_one, Nat.reduceMul, Int.le_refl, k5, k6, k7, g1, g4, hv]; rotate_left; simp (config := { maxSteps := 1000000 }) only [VC, appL, repZ, mkFs, newSl, resS, teS, resV, opK, putK, storeK, softS, eqC, eqCs, callS, moveS, loadS, nilS, binV, binS, unS, convS, faS, fldS, iaS, ixS, slS, lenS, buildS, fillS, extS, ifS, capsS, boundS, strLen, minS, maxS, pickS, plainS, oneS, onesS, cellsS, ev, evs, getS, ofVal, takeN, takeAt, layN, nthS, setN, snoc, lenN, unw, memN, trimS, TE.sv, argS, cxOf, lays, ↓reduceIte, reduceCtorEq, Value.oneCell', Nat.reduceEqDiff, Nat.reduceAdd, Nat.reduceLT, Nat.reduceBEq, Nat.reduceSub, Nat.reduceLeDiff, e00, e01, e02, e03, e04, e05, e06, e07, e08, e09, e10, e11, e12, e13, e14, e15, e16, e17, e18, e19, e20, e21, e22, e23, e24, e25, e26, e27, e28, e29, e30, e31, e32, e33, e34, cE, cOE, hcs, hap, killE, deadOf, rwE, cD, cO, consD, gdS, eqB, newC, mkV, storeC, firstN, snocAll, appAll, dropN, repN, putSl, slAt, allL, lvC, softC, ckD, ckO, hcallC, wfC, wfL, wfE, wfV, hP, dO, dR, dL, dT, rowText, rowLeft, rowDflag, rowDtold, rowDall, xqS, anM, itM, Int.toNat_natCast, Nat.mul_one, Nat.reduceMul, Int.le_refl, k5, k6, k7, g1, g4, hv])
      · simp only [List.length_append, List.length_cons, List.length_nil]; omega
      exact fin _ _ (by simp [fineD, sizeT, m_mg, m_ma, crlf, n4, hv])
    | false =>
      cases hq : r.quiet
      all_goals
        (refine VT_ok hctr (rs := res41) true 300 _ _ _ ?_; simp (config := { maxSteps := 1000000 }) only [VT, f00, f01, opG_t, opG_f, putG_t, putG_f, VC, appL, repZ, mkFs, newSl, resS, teS, resV, opK, putK, storeK, softS, eqC, eqCs, callS, moveS, loadS, nilS, binV, binS, unS, convS, faS, fldS, iaS, ixS, slS, lenS, buildS, fillS, extS, ifS, capsS, boundS, strLen, minS, maxS, pickS, plainS, oneS, onesS, cellsS, ev, evs, getS, ofVal, takeN, takeAt, layN, nthS, setN, snoc, lenN, unw, memN, trimS, TE.sv, argS, cxOf, lays, ↓reduceIte, reduceCtorEq, Value.oneCell', Nat.reduceEqDiff, Nat.reduceAdd, Nat.reduceLT, Nat.reduceBEq, Nat.reduceSub, Nat.reduceLeDiff, e00, e01, e02, e03, e04, e05, e06, e07, e08, e09, e10, e11, e12, e13, e14, e15, e16, e17, e18, e19, e20, e21, e22, e23, e24, e25, e26, e27, e28, e29, e30, e31, e32, e33, e34, cE, cOE, hcs, hap, killE, deadOf, rwE, cD, cO, consD, gdS, eqB, newC, mkV, storeC, firstN, snocAll, appAll, dropN, repN, putSl, slAt, allL, lvC, softC, ckD, ckO, hcallC, wfC, wfL, wfE, wfV, hP, hk, res41, kp41, dO, dR, dL, dT, rowText, rowLeft, rowDflag, rowDtold, rowDall, xqS, anM, itM, Int.toNat_natCast, Nat.mul_one, Nat.reduceMul, Int.le_refl, k5, k6, k7, g1, g4, hv, hq, Bool.not_false])
        repeat (refine ⟨by first | decide | omega | (simp only [List.length_append, List.length_cons, List.length_nil]; omega), ?_⟩)
        exact fin _ _ (by simp [fineD, sizeT, m_mg, m_ma, crlf, n4, hv, hq])
  have g4 : (r.name == [109, 97]) = false := by simpa using n4
  cases hq : r.quiet
  all_goals
    (refine VT_ok hctr (rs := res41) true 300 _ _ _ ?_; simp (config := { maxSteps := 1000000 }) only [VT, f00, f01, opG_t, opG_f, putG_t, putG_f, VC, appL, repZ, mkFs, newSl, resS, teS, resV, opK, putK, storeK, softS, eqC, eqCs, callS, moveS, loadS, nilS, binV, binS, unS, convS, faS, fldS, iaS, ixS, slS, lenS, buildS, fillS, extS, ifS, capsS, boundS, strLen, minS, maxS, pickS, plainS, oneS, onesS, cellsS, ev, evs, getS, ofVal, takeN, takeAt, layN, nthS, setN, snoc, lenN, unw, memN, trimS, TE.sv, argS, cxOf, lays, ↓reduceIte, reduceCtorEq, Value.oneCell', Nat.reduceEqDiff, Nat.reduceAdd, Nat.reduceLT, Nat.reduceBEq, Nat.reduceSub, Nat.reduceLeDiff, e00, e01, e02, e03, e04, e05, e06, e07, e08, e09, e10, e11, e12, e13, e14, e15, e16, e17, e18, e19, e20, e21, e22, e23, e24, e25, e26, e27, e28, e29, e30, e31, e32, e33, e34, cE, cOE, hcs, hap, killE, deadOf, rwE, cD, cO, consD, gdS, eqB, newC, mkV, storeC, firstN, snocAll, appAll, dropN, repN, putSl, slAt, allL, lvC, softC, ckD, ckO, hcallC, wfC, wfL, wfE, wfV, hP, hk, res41, kp41, dO, dR, dL, dT, rowText, rowLeft, rowDflag, rowDtold, rowDall, xqS, anM, itM, Int.toNat_natCast, Nat.mul_one, Nat.reduceMul, Int.le_refl, k5, k6, k7, g1, g4, hq, Bool.not_false])
    repeat (refine ⟨by first | decide | omega | (simp only [List.length_append, List.length_cons, List.length_nil]; omega), ?_⟩)
    exact fin _ _ (by simp [fineD, sizeT, m_mg, m_ma, crlf, n1, n4, hq])
theorem dmiss_w (hok : RpOk r a now) (hn : X.fn = r.flags.length) (hraw : RawT w X.fa r.flags) : Calls Tryz.prog 38 #[(SV.g (xqS X r)).den (fun _ => reOf 0), (SV.g (anM a)).den (fun _ => reOf 0), .int .i64 now] w fun e w' => e = .returned (.string ⟨(missD r a now).toArray⟩) ∧ Below w.heap.size w w' := by
  refine calls_of_Run Tryz.func38 rfl kp38 (S := Non) (ρ := fun _ => reOf 0) (en := []) [.g (xqS X r), .g (anM a), .c (.i .i64 now)] Tryz.ntmps38 (At.nil _ _ _) (by simp only [List.mem_cons, List.not_mem_nil, or_false, forall_eq_or_imp, forall_eq]; exact ⟨xq_wf _ _ _, anM_wf _ _, trivial⟩) (by simp) ?_
  intro C hC hP hk
  have hF : ∀ w', Upd C.S C.w0 w' → RawT w' X.fa r.flags := fun w' hu => by rw [hC] at hu; exact hraw.upd hu
  have hctr := dR_ok (X := X) hP hok hn hF
  have fin : ∀ l en, missD r a now = l → Fin C res38 (.c (.s l)) en := fun l en hl => by subst hl; exact Fin_ro (v := .c (.s (missD r a now))) hC hres38 rfl trivial
  have lt := toldD_le hok true
  have lf := toldD_le hok false
  have ls : (Lib.decDigits a.it.val.length).length ≤ 20 := dec_le20 (by have := hok.lv; omega)
  have k5 : (0 : Int) ≤ (a.it.val.length : Int) := by omega
  have k6 : (a.it.val.length : Int) < 18446744073709551616 := by have := hok.lv; omega
  have k7 : IntKind.u64.wrap (a.it.val.length : Int) = (a.it.val.length : Int) := wrap_u64n _ (by have := hok.lv; omega)
  by_cases n0 : r.name = [109, 103]
  · have g0 : (r.name == [109, 103]) = true := by rw [n0]; rfl
    have g1 : (r.name == [109, 101]) = false := by rw [n0]; rfl
    have g2 : (r.name == [109, 115]) = false := by rw [n0]; rfl
    have g3 : (r.name == [109, 100]) = false := by rw [n0]; rfl
    have g4 : (r.name == [109, 97]) = false := by rw [n0]; rfl
    cases hq : r.quiet
    all_goals
      (refine VT_ok hctr (rs := res38) true 300 _ _ _ ?_; simp (config := { maxSteps := 1000000 }) only [VT, f00, f01, opG_t, opG_f, putG_t, putG_f, VC, appL, repZ, mkFs, newSl, resS, teS, resV, opK, putK, storeK, softS, eqC, eqCs, callS, moveS, loadS, nilS, binV, binS, unS, convS, faS, fldS, iaS, ixS, slS, lenS, buildS, fillS, extS, ifS, capsS, boundS, strLen, minS, maxS, pickS, plainS, oneS, onesS, cellsS, ev, evs, getS, ofVal, takeN, takeAt, layN, nthS, setN, snoc, lenN, unw, memN, trimS, TE.sv, argS, cxOf, lays, ↓reduceIte, reduceCtorEq, Value.oneCell', Nat.reduceEqDiff, Nat.reduceAdd, Nat.reduceLT, Nat.reduceBEq, Nat.reduceSub, Nat.reduceLeDiff, e00, e01, e02, e03, e04, e05, e06, e07, e08, e09, e10, e11, e12, e13, e14, e15, e16, e17, e18, e19, e20, e21, e22, e23, e24, e25, e26, e27, e28, e29, e30, e31, e32, e33, e34, cE, cOE, hcs, hap, killE, deadOf, rwE, cD, cO, consD, gdS, eqB, newC, mkV, storeC, firstN, snocAll, appAll, dropN, repN, putSl, slAt, allL, lvC, softC, ckD, ckO, hcallC, wfC, wfL, wfE, wfV, hP, hk, res38, kp38, dO, dR, dL, dT, rowText, rowLeft, rowDflag, rowDtold, rowDall, xqS, anM, itM, Int.toNat_natCast, Nat.mul_one, Nat.reduceMul, Int.le_refl, g0, g1, g2, g3, g4, hq])
      repeat (refine ⟨by first | decide | omega | (simp only [List.length_append, List.length_cons, List.length_nil]; omega), ?_⟩)
      exact fin _ _ (by simp [missD, m_me, m_mg, m_ms, m_md, m_ma, crlf, n0, hq])
  have g0 : (r.name == [109, 103]) = false := by simpa using n0
  by_cases n1 : r.name = [109, 101]
  · have g1 : (r.name == [109, 101]) = true := by rw [n1]; rfl
    have g2 : (r.name == [109, 115]) = false := by rw [n1]; rfl
    have g3 : (r.name == [109, 100]) = false := by rw [n1]; rfl
    have g4 : (r.name == [109, 97]) = false := by rw [n1]; rfl
    (refine VT_ok hctr (rs := res38) true 300 _ _ _ ?_; simp (config := { maxSteps := 1000000 }) only [VT, f00, f01, opG_t, opG_f, putG_t, putG_f, VC, appL, repZ, mkFs, newSl, resS, teS, resV, opK, putK, storeK, softS, eqC, eqCs, callS, moveS, loadS, nilS, binV, binS, unS, convS, faS, fldS, iaS, ixS, slS, lenS, buildS, fillS, extS, ifS, capsS, boundS, strLen, minS, maxS, pickS, plainS, oneS, onesS, cellsS, ev, evs, getS, ofVal, takeN, takeAt, layN, nthS, setN, snoc, lenN, unw, memN, trimS, TE.sv, argS, cxOf, lays, ↓reduceIte, reduceCtorEq, Value.oneCell', Nat.reduceEqDiff, Nat.reduceAdd, Nat.reduceLT, Nat.reduceBEq, Nat.reduceSub, Nat.reduceLeDiff, e00, e01, e02, e03, e04, e05, e06, e07, e08, e09, e10, e11, e12, e13, e14, e15, e16, e17, e18, e19, e20, e21, e22, e23, e24, e25, e26, e27, e28, e29, e30, e31, e32, e33, e34, cE, cOE, hcs, hap, killE, deadOf, rwE, cD, cO, consD, gdS, eqB, newC, mkV, storeC, firstN, snocAll, appAll, dropN, repN, putSl, slAt, allL, lvC, softC, ckD, ckO, hcallC, wfC, wfL, wfE, wfV, hP, hk, res38, kp38, dO, dR, dL, dT, rowText, rowLeft, rowDflag, rowDtold, rowDall, xqS, anM, itM, Int.toNat_natCast, Nat.mul_one, Nat.reduceMul, Int.le_refl, g0, g1, g2, g3, g4])
    repeat (refine ⟨by first | decide | omega | (simp only [List.length_append, List.length_cons, List.length_nil]; omega), ?_⟩)
    exact fin _ _ (by simp [missD, m_me, m_mg, m_ms, m_md, m_ma, crlf, n1])
  have g1 : (r.name == [109, 101]) = false := by simpa using n1
  by_cases n2 : r.name = [109, 115]
  · have g2 : (r.name == [109, 115]) = true := by rw [n2]; rfl
    have g3 : (r.name == [109, 100]) = false := by rw [n2]; rfl
    have g4 : (r.name == [109, 97]) = false := by rw [n2]; rfl
    (refine VT_ok hctr (rs := res38) true 300 _ _ _ ?_; simp (config := { maxSteps := 1000000 }) only [VT, f00, f01, opG_t, opG_f, putG_t, putG_f, VC, appL, repZ, mkFs, newSl, resS, teS, resV, opK, putK, storeK, softS, eqC, eqCs, callS, moveS, loadS, nilS, binV, binS, unS, convS, faS, fldS, iaS, ixS, slS, lenS, buildS, fillS, extS, ifS, capsS, boundS, strLen, minS, maxS, pickS, plainS, oneS, onesS, cellsS, ev, evs, getS, ofVal, takeN, takeAt, layN, nthS, setN, snoc, lenN, unw, memN, trimS, TE.sv, argS, cxOf, lays, ↓reduceIte, reduceCtorEq, Value.oneCell', Nat.reduceEqDiff, Nat.reduceAdd, Nat.reduceLT, Nat.reduceBEq, Nat.reduceSub, Nat.reduceLeDiff, e00, e01, e02, e03, e04, e05, e06, e07, e08, e09, e10, e11, e12, e13, e14, e15, e16, e17, e18, e19, e20, e21, e22, e23, e24, e25, e26, e27, e28, e29, e30, e31, e32, e33, e34, cE, cOE, hcs, hap, killE, deadOf, rwE, cD, cO, consD, gdS, eqB, newC, mkV, storeC, firstN, snocAll, appAll, dropN, repN, putSl, slAt, allL, lvC, softC, ckD, ckO, hcallC, wfC, wfL, wfE, wfV, hP, hk, res38, kp38, dO, dR, dL, dT, rowText, rowLeft, rowDflag, rowDtold, rowDall, xqS, anM, itM, Int.toNat_natCast, Nat.mul_one, Nat.reduceMul, Int.le_refl, g0, g1, g2, g3, g4])
    repeat (refine ⟨by first | decide | omega | (simp only [List.length_append, List.length_cons, List.length_nil]; omega), ?_⟩)
    exact fin _ _ (by simp [missD, m_me, m_mg, m_ms, m_md, m_ma, crlf, n2])
  have g2 : (r.name == [109, 115]) = false := by simpa using n2
  by_cases n3 : r.name = [109, 100]
  · have g3 : (r.name == [109, 100]) = true := by rw [n3]; rfl
    have g4 : (r.name == [109, 97]) = false := by rw [n3]; rfl
    cases hq : r.quiet
    all_goals
      (refine VT_ok hctr (rs := res38) true 300 _ _ _ ?_; simp (config := { maxSteps := 1000000 }) only [VT, f00, f01, opG_t, opG_f, putG_t, putG_f, VC, appL, repZ, mkFs, newSl, resS, teS, resV, opK, putK, storeK, softS, eqC, eqCs, callS, moveS, loadS, nilS, binV, binS, unS, convS, faS, fldS, iaS, ixS, slS, lenS, buildS, fillS, extS, ifS, capsS, boundS, strLen, minS, maxS, pickS, plainS, oneS, onesS, cellsS, ev, evs, getS, ofVal, takeN, takeAt, layN, nthS, setN, snoc, lenN, unw, memN, trimS, TE.sv, argS, cxOf, lays, ↓reduceIte, reduceCtorEq, Value.oneCell', Nat.reduceEqDiff, Nat.reduceAdd, Nat.reduceLT, Nat.reduceBEq, Nat.reduceSub, Nat.reduceLeDiff, e00, e01, e02, e03, e04, e05, e06, e07, e08, e09, e10, e11, e12, e13, e14, e15, e16, e17, e18, e19, e20, e21, e22, e23, e24, e25, e26, e27, e28, e29, e30, e31, e32, e33, e34, cE, cOE, hcs, hap, killE, deadOf, rwE, cD, cO, consD, gdS, eqB, newC, mkV, storeC, firstN, snocAll, appAll, dropN, repN, putSl, slAt, allL, lvC, softC, ckD, ckO, hcallC, wfC, wfL, wfE, wfV, hP, hk, res38, kp38, dO, dR, dL, dT, rowText, rowLeft, rowDflag, rowDtold, rowDall, xqS, anM, itM, Int.toNat_natCast, Nat.mul_one, Nat.reduceMul, Int.le_refl, g0, g1, g2, g3, g4, hq])
      repeat (refine ⟨by first | decide | omega | (simp only [List.length_append, List.length_cons, List.length_nil]; omega), ?_⟩)
      exact fin _ _ (by simp [missD, m_me, m_mg, m_ms, m_md, m_ma, crlf, n3, hq])
  have g3 : (r.name == [109, 100]) = false := by simpa using n3
  by_cases n4 : r.name = [109, 97]
  · have g4 : (r.name == [109, 97]) = true := by rw [n4]; rfl
    cases hq : r.quiet
    all_goals
      (refine VT_ok hctr (rs := res38) true 300 _ _ _ ?_; simp (config := { maxSteps := 1000000 }) only [VT, f00, f01, opG_t, opG_f, putG_t, putG_f, VC, appL, repZ, mkFs, newSl, resS, teS, resV, opK, putK, storeK, softS, eqC, eqCs, callS, moveS, loadS, nilS, binV, binS, unS, convS, faS, fldS, iaS, ixS, slS, lenS, buildS, fillS, extS, ifS, capsS, boundS, strLen, minS, maxS, pickS, plainS, oneS, onesS, cellsS, ev, evs, getS, ofVal, takeN, takeAt, layN, nthS, setN, snoc, lenN, unw, memN, trimS, TE.sv, argS, cxOf, lays, ↓reduceIte, reduceCtorEq, Value.oneCell', Nat.reduceEqDiff, Nat.reduceAdd, Nat.reduceLT, Nat.reduceBEq, Nat.reduceSub, Nat.reduceLeDiff, e00, e01, e02, e03, e04, e05, e06, e07, e08, e09, e10, e11, e12, e13, e14, e15, e16, e17, e18, e19, e20, e21, e22, e23, e24, e25, e26, e27, e28, e29, e30, e31, e32, e33, e34, cE, cOE, hcs, hap, killE, deadOf, rwE, cD, cO, consD, gdS, eqB, newC, mkV, storeC, firstN, snocAll, appAll, dropN, repN, putSl, slAt, allL, lvC, softC, ckD, ckO, hcallC, wfC, wfL, wfE, wfV, hP, hk, res38, kp38, dO, dR, dL, dT, rowText, rowLeft, rowDflag, rowDtold, rowDall, xqS, anM, itM, Int.toNat_natCast, Nat.mul_one, Nat.reduceMul, Int.le_refl, g0, g1, g2, g3, g4, hq])
      repeat (refine ⟨by first | decide | omega | (simp only [List.length_append, List.length_cons, List.length_nil]; omega), ?_⟩)
      exact fin _ _ (by simp [missD, m_me, m_mg, m_ms, m_md, m_ma, crlf, n4, hq])
  have g4 : (r.name == [109, 97]) = false := by simpa using n4
  (refine VT_ok hctr (rs := res38) true 300 _ _ _ ?_; simp (config := { maxSteps := 1000000 }) only [VT, f00, f01, opG_t, opG_f, putG_t, putG_f, VC, appL, repZ, mkFs, newSl, resS, teS, resV, opK, putK, storeK, softS, eqC, eqCs, callS, moveS, loadS, nilS, binV, binS, unS, convS, faS, fldS, iaS, ixS, slS, lenS, buildS, fillS, extS, ifS, capsS, boundS, strLen, minS, maxS, pickS, plainS, oneS, onesS, cellsS, ev, evs, getS, ofVal, takeN, takeAt, layN, nthS, setN, snoc, lenN, unw, memN, trimS, TE.sv, argS, cxOf, lays, ↓reduceIte, reduceCtorEq, Value.oneCell', Nat.reduceEqDiff, Nat.reduceAdd, Nat.reduceLT, Nat.reduceBEq, Nat.reduceSub, Nat.reduceLeDiff, e00, e01, e02, e03, e04, e05, e06, e07, e08, e09, e10, e11, e12, e13, e14, e15, e16, e17, e18, e19, e20, e21, e22, e23, e24, e25, e26, e27, e28, e29, e30, e31, e32, e33, e34, cE, cOE, hcs, hap, killE, deadOf, rwE, cD, cO, consD, gdS, eqB, newC, mkV, storeC, firstN, snocAll, appAll, dropN, repN, putSl, slAt, allL, lvC, softC, ckD, ckO, hcallC, wfC, wfL, wfE, wfV, hP, hk, res38, kp38, dO, dR, dL, dT, rowText, rowLeft, rowDflag, rowDtold, rowDall, xqS, anM, itM, Int.toNat_natCast, Nat.mul_one, Nat.reduceMul, Int.le_refl, g0, g1, g2, g3, g4])
  repeat (refine ⟨by first | decide | omega | (simp only [List.length_append, List.length_cons, List.length_nil]; omega), ?_⟩)
  exact fin _ _ (by simp [missD, m_me, m_mg, m_ms, m_md, m_ma, crlf, n0, n1, n2, n3, n4])
theorem dO_ok {C : Cx} (hP : C.P = Tryz.prog) (hok : RpOk r a now) (hv9 : a.it.val.length ≤ 9000000000000000000) (hn : X.fn = r.flags.length) (hF : ∀ w, Upd C.S C.w0 w → RawT w X.fa r.flags) : CtrOk C (dO X r a now) := by
  intro f en xs p v h hp ρ w hup hHp hHo hinj hwf
  unfold dO at h
  split at h
  · rw [hP]
    refine ⟨fun args w => Tryz.call41 args w, ?_⟩
    unfold rowDall at h
    split at h <;> simp only [Option.some.injEq, Prod.mk.injEq, reduceCtorEq] at h
    obtain ⟨rfl, rfl⟩ := h
    obtain ⟨rfl, rfl, rfl⟩ := hp
    exact ⟨trivial, dfine_w hok hv9 hn (hF w hup)⟩
  · rw [hP]
    refine ⟨fun args w => Tryz.call38 args w, ?_⟩
    unfold rowDall at h
    split at h <;> simp only [Option.some.injEq, Prod.mk.injEq, reduceCtorEq] at h
    obtain ⟨rfl, rfl⟩ := h
    obtain ⟨rfl, rfl, rfl⟩ := hp
    exact ⟨trivial, dmiss_w hok hn (hF w hup)⟩
  · exact dR_ok hP hok hn hF f en xs p v h hp ρ w hup hHp hHo hinj hwf
theorem dreply_w (hok : RpOk r a now) (hv9 : a.it.val.length ≤ 9000000000000000000) (hn : X.fn = r.flags.length) (hraw : RawT w X.fa r.flags) : Calls Tryz.prog 15 #[(SV.g (xqS X r)).den (fun _ => reOf 0), (SV.g (anM a)).den (fun _ => reOf 0), .int .i64 now] w fun e w' => e = .returned (.string ⟨(dReply r a now).toArray⟩) ∧ Below w.heap.size w w' := by
  refine calls_of_Run Tryz.func15 rfl kp15 (S := Non) (ρ := fun _ => reOf 0) (en := []) [.g (xqS X r), .g (anM a), .c (.i .i64 now)] Tryz.ntmps15 (At.nil _ _ _) (by simp only [List.mem_cons, List.not_mem_nil, or_false, forall_eq_or_imp, forall_eq]; exact ⟨xq_wf _ _ _, anM_wf _ _, trivial⟩) (by simp) ?_
  intro C hC hP hk
  have hF : ∀ w', Upd C.S C.w0 w' → RawT w' X.fa r.flags := fun w' hu => by rw [hC] at hu; exact hraw.upd hu
  have hctr := dO_ok (X := X) hP hok hv9 hn hF
  have fin : ∀ l en, dReply r a now = l → Fin C res15 (.c (.s l)) en := fun l en hl => by subst hl; exact Fin_ro (v := .c (.s (dReply r a now))) hC hres15 rfl trivial
  have lt := toldD_le hok true
  have lf := toldD_le hok false
  have ls : (Lib.decDigits a.it.val.length).length ≤ 20 := dec_le20 (by have := hok.lv; omega)
  have k5 : (0 : Int) ≤ (a.it.val.length : Int) := by omega
  have k6 : (a.it.val.length : Int) < 18446744073709551616 := by have := hok.lv; omega
  have k7 : IntKind.u64.wrap (a.it.val.length : Int) = (a.it.val.length : Int) := wrap_u64n _ (by have := hok.lv; omega)
  have lc := dec_le20 (n := a.it.cas.toNat) (by have := hok.c1; omega)
  have ll : (leftT a.it now).length ≤ 20 := by
    unfold leftT
    split
    · simp
    · refine dec_le20 ?_
      have := hok.e1
      split <;> omega
  obtain ⟨lt9, hlt⟩ : ∃ lt, leftT ⟨a.it.key, a.it.flags, a.it.val, a.it.exp, a.it.cas, a.it.last, a.it.stale, a.it.won⟩ now = lt := ⟨_, rfl⟩
  have hlt2 : leftT a.it now = lt9 := hlt
  rw [hlt2] at ll
  have lw := hok.lw
  have k0 := hok.c0
  have k1 := hok.c1
  have k8 := hok.e0
  have k9 := hok.e1
  by_cases h7 : r.kind = 7
  · have f7 : (r.kind == 7) = true := by rw [h7]; rfl
    (refine VT_ok hctr (rs := res15) true 300 _ _ _ ?_; simp (config := { maxSteps := 1000000 }) only [VT, f00, f01, opG_t, opG_f, putG_t, putG_f, VC, appL, repZ, mkFs, newSl, resS, teS, resV, opK, putK, storeK, softS, eqC, eqCs, callS, moveS, loadS, nilS, binV, binS, unS, convS, faS, fldS, iaS, ixS, slS, lenS, buildS, fillS, extS, ifS, capsS, boundS, strLen, minS, maxS, pickS, plainS, oneS, onesS, cellsS, ev, evs, getS, ofVal, takeN, takeAt, layN, nthS, setN, snoc, lenN, unw, memN, trimS, TE.sv, argS, cxOf, lays, ↓reduceIte, reduceCtorEq, Value.oneCell', Nat.reduceEqDiff, Nat.reduceAdd, Nat.reduceLT, Nat.reduceBEq, Nat.reduceSub, Nat.reduceLeDiff, e00, e01, e02, e03, e04, e05, e06, e07, e08, e09, e10, e11, e12, e13, e14, e15, e16, e17, e18, e19, e20, e21, e22, e23, e24, e25, e26, e27, e28, e29, e30, e31, e32, e33, e34, cE, cOE, hcs, hap, killE, deadOf, rwE, cD, cO, consD, gdS, eqB, newC, mkV, storeC, firstN, snocAll, appAll, dropN, repN, putSl, slAt, allL, lvC, softC, ckD, ckO, hcallC, wfC, wfL, wfE, wfV, hP, hk, res15, kp15, dO, dR, dL, dT, rowText, rowLeft, rowDflag, rowDtold, rowDall, xqS, anM, itM, Int.toNat_natCast, Nat.mul_one, Nat.reduceMul, Int.le_refl, k0, k1, k5, k6, k7, k8, k9, hlt, f7])
    repeat (refine ⟨by first | decide | omega | (simp only [List.length_append, List.length_cons, List.length_nil]; omega), ?_⟩)
    exact fin _ _ (by simp [dReply, m_me, m_mg, m_ms, m_md, m_ma, crlf, sizeT, hlt2, h7])
  have f7 : (r.kind == 7) = false := by simpa using h7
  by_cases h1 : r.kind = 1
  rotate_left
  · have f1 : (r.kind != 1) = true := by simpa using h1
    (refine VT_ok hctr (rs := res15) true 300 _ _ _ ?_; simp (config := { maxSteps := 1000000 }) only [VT, f00, f01, opG_t, opG_f, putG_t, putG_f, VC, appL, repZ, mkFs, newSl, resS, teS, resV, opK, putK, storeK, softS, eqC, eqCs, callS, moveS, loadS, nilS, binV, binS, unS, convS, faS, fldS, iaS, ixS, slS, lenS, buildS, fillS, extS, ifS, capsS, boundS, strLen, minS, maxS, pickS, plainS, oneS, onesS, cellsS, ev, evs, getS, ofVal, takeN, takeAt, layN, nthS, setN, snoc, lenN, unw, memN, trimS, TE.sv, argS, cxOf, lays, ↓reduceIte, reduceCtorEq, Value.oneCell', Nat.reduceEqDiff, Nat.reduceAdd, Nat.reduceLT, Nat.reduceBEq, Nat.reduceSub, Nat.reduceLeDiff, e00, e01, e02, e03, e04, e05, e06, e07, e08, e09, e10, e11, e12, e13, e14, e15, e16, e17, e18, e19, e20, e21, e22, e23, e24, e25, e26, e27, e28, e29, e30, e31, e32, e33, e34, cE, cOE, hcs, hap, killE, deadOf, rwE, cD, cO, consD, gdS, eqB, newC, mkV, storeC, firstN, snocAll, appAll, dropN, repN, putSl, slAt, allL, lvC, softC, ckD, ckO, hcallC, wfC, wfL, wfE, wfV, hP, hk, res15, kp15, dO, dR, dL, dT, rowText, rowLeft, rowDflag, rowDtold, rowDall, xqS, anM, itM, Int.toNat_natCast, Nat.mul_one, Nat.reduceMul, Int.le_refl, k0, k1, k5, k6, k7, k8, k9, hlt, f7, f1, Bool.not_false])
    repeat (refine ⟨by first | decide | omega | (simp only [List.length_append, List.length_cons, List.length_nil]; omega), ?_⟩)
    exact fin _ _ (by simp [dReply, m_me, m_mg, m_ms, m_md, m_ma, crlf, sizeT, hlt2, h7, h1])
  have f1 : (r.kind != 1) = false := by rw [h1]; rfl
  by_cases s11 : a.st = 11
  · have e11 : (a.st == 11) = true := by rw [s11]; rfl
    have e12 : (a.st == 12) = false := by rw [s11]; rfl
    have e7 : (a.st == 7) = false := by rw [s11]; rfl
    have e5 : (a.st == 5) = false := by rw [s11]; rfl
    (refine VT_ok hctr (rs := res15) true 300 _ _ _ ?_; simp (config := { maxSteps := 1000000 }) only [VT, f00, f01, opG_t, opG_f, putG_t, putG_f, VC, appL, repZ, mkFs, newSl, resS, teS, resV, opK, putK, storeK, softS, eqC, eqCs, callS, moveS, loadS, nilS, binV, binS, unS, convS, faS, fldS, iaS, ixS, slS, lenS, buildS, fillS, extS, ifS, capsS, boundS, strLen, minS, maxS, pickS, plainS, oneS, onesS, cellsS, ev, evs, getS, ofVal, takeN, takeAt, layN, nthS, setN, snoc, lenN, unw, memN, trimS, TE.sv, argS, cxOf, lays, ↓reduceIte, reduceCtorEq, Value.oneCell', Nat.reduceEqDiff, Nat.reduceAdd, Nat.reduceLT, Nat.reduceBEq, Nat.reduceSub, Nat.reduceLeDiff, e00, e01, e02, e03, e04, e05, e06, e07, e08, e09, e10, e11, e12, e13, e14, e15, e16, e17, e18, e19, e20, e21, e22, e23, e24, e25, e26, e27, e28, e29, e30, e31, e32, e33, e34, cE, cOE, hcs, hap, killE, deadOf, rwE, cD, cO, consD, gdS, eqB, newC, mkV, storeC, firstN, snocAll, appAll, dropN, repN, putSl, slAt, allL, lvC, softC, ckD, ckO, hcallC, wfC, wfL, wfE, wfV, hP, hk, res15, kp15, dO, dR, dL, dT, rowText, rowLeft, rowDflag, rowDtold, rowDall, xqS, anM, itM, Int.toNat_natCast, Nat.mul_one, Nat.reduceMul, Int.le_refl, k0, k1, k5, k6, k7, k8, k9, hlt, f7, f1, Bool.not_true, e11, e12, e7, e5])
    repeat (refine ⟨by first | decide | omega | (simp only [List.length_append, List.length_cons, List.length_nil]; omega), ?_⟩)
    exact fin _ _ (by simp [dReply, m_me, m_mg, m_ms, m_md, m_ma, crlf, sizeT, hlt2, h1, s11])
  have e11 : (a.st == 11) = false := by simpa using s11
  by_cases s12 : a.st = 12
  · have e11 : (a.st == 11) = false := by rw [s12]; rfl
    have e12 : (a.st == 12) = true := by rw [s12]; rfl
    have e7 : (a.st == 7) = false := by rw [s12]; rfl
    have e5 : (a.st == 5) = false := by rw [s12]; rfl
    (refine VT_ok hctr (rs := res15) true 300 _ _ _ ?_; simp (config := { maxSteps := 1000000 }) only [VT, f00, f01, opG_t, opG_f, putG_t, putG_f, VC, appL, repZ, mkFs, newSl, resS, teS, resV, opK, putK, storeK, softS, eqC, eqCs, callS, moveS, loadS, nilS, binV, binS, unS, convS, faS, fldS, iaS, ixS, slS, lenS, buildS, fillS, extS, ifS, capsS, boundS, strLen, minS, maxS, pickS, plainS, oneS, onesS, cellsS, ev, evs, getS, ofVal, takeN, takeAt, layN, nthS, setN, snoc, lenN, unw, memN, trimS, TE.sv, argS, cxOf, lays, ↓reduceIte, reduceCtorEq, Value.oneCell', Nat.reduceEqDiff, Nat.reduceAdd, Nat.reduceLT, Nat.reduceBEq, Nat.reduceSub, Nat.reduceLeDiff, e00, e01, e02, e03, e04, e05, e06, e07, e08, e09, e10, e11, e12, e13, e14, e15, e16, e17, e18, e19, e20, e21, e22, e23, e24, e25, e26, e27, e28, e29, e30, e31, e32, e33, e34, cE, cOE, hcs, hap, killE, deadOf, rwE, cD, cO, consD, gdS, eqB, newC, mkV, storeC, firstN, snocAll, appAll, dropN, repN, putSl, slAt, allL, lvC, softC, ckD, ckO, hcallC, wfC, wfL, wfE, wfV, hP, hk, res15, kp15, dO, dR, dL, dT, rowText, rowLeft, rowDflag, rowDtold, rowDall, xqS, anM, itM, Int.toNat_natCast, Nat.mul_one, Nat.reduceMul, Int.le_refl, k0, k1, k5, k6, k7, k8, k9, hlt, f7, f1, Bool.not_true, e11, e12, e7, e5])
    repeat (refine ⟨by first | decide | omega | (simp only [List.length_append, List.length_cons, List.length_nil]; omega), ?_⟩)
    exact fin _ _ (by simp [dReply, m_me, m_mg, m_ms, m_md, m_ma, crlf, sizeT, hlt2, h1, s12])
  have e12 : (a.st == 12) = false := by simpa using s12
  by_cases s7 : a.st = 7
  · have e11 : (a.st == 11) = false := by rw [s7]; rfl
    have e12 : (a.st == 12) = false := by rw [s7]; rfl
    have e7 : (a.st == 7) = true := by rw [s7]; rfl
    have e5 : (a.st == 5) = false := by rw [s7]; rfl
    (refine VT_ok hctr (rs := res15) true 300 _ _ _ ?_; simp (config := { maxSteps := 1000000 }) only [VT, f00, f01, opG_t, opG_f, putG_t, putG_f, VC, appL, repZ, mkFs, newSl, resS, teS, resV, opK, putK, storeK, softS, eqC, eqCs, callS, moveS, loadS, nilS, binV, binS, unS, convS, faS, fldS, iaS, ixS, slS, lenS, buildS, fillS, extS, ifS, capsS, boundS, strLen, minS, maxS, pickS, plainS, oneS, onesS, cellsS, ev, evs, getS, ofVal, takeN, takeAt, layN, nthS, setN, snoc, lenN, unw, memN, trimS, TE.sv, argS, cxOf, lays, ↓reduceIte, reduceCtorEq, Value.oneCell', Nat.reduceEqDiff, Nat.reduceAdd, Nat.reduceLT, Nat.reduceBEq, Nat.reduceSub, Nat.reduceLeDiff, e00, e01, e02, e03, e04, e05, e06, e07, e08, e09, e10, e11, e12, e13, e14, e15, e16, e17, e18, e19, e20, e21, e22, e23, e24, e25, e26, e27, e28, e29, e30, e31, e32, e33, e34, cE, cOE, hcs, hap, killE, deadOf, rwE, cD, cO, consD, gdS, eqB, newC, mkV, storeC, firstN, snocAll, appAll, dropN, repN, putSl, slAt, allL, lvC, softC, ckD, ckO, hcallC, wfC, wfL, wfE, wfV, hP, hk, res15, kp15, dO, dR, dL, dT, rowText, rowLeft, rowDflag, rowDtold, rowDall, xqS, anM, itM, Int.toNat_natCast, Nat.mul_one, Nat.reduceMul, Int.le_refl, k0, k1, k5, k6, k7, k8, k9, hlt, f7, f1, Bool.not_true, e11, e12, e7, e5])
    repeat (refine ⟨by first | decide | omega | (simp only [List.length_append, List.length_cons, List.length_nil]; omega), ?_⟩)
    exact fin _ _ (by simp [dReply, m_me, m_mg, m_ms, m_md, m_ma, crlf, sizeT, hlt2, h1, s7])
  have e7 : (a.st == 7) = false := by simpa using s7
  by_cases s5 : a.st = 5
  · have e11 : (a.st == 11) = false := by rw [s5]; rfl
    have e12 : (a.st == 12) = false := by rw [s5]; rfl
    have e7 : (a.st == 7) = false := by rw [s5]; rfl
    have e5 : (a.st == 5) = true := by rw [s5]; rfl
    (refine VT_ok hctr (rs := res15) true 300 _ _ _ ?_; simp (config := { maxSteps := 1000000 }) only [VT, f00, f01, opG_t, opG_f, putG_t, putG_f, VC, appL, repZ, mkFs, newSl, resS, teS, resV, opK, putK, storeK, softS, eqC, eqCs, callS, moveS, loadS, nilS, binV, binS, unS, convS, faS, fldS, iaS, ixS, slS, lenS, buildS, fillS, extS, ifS, capsS, boundS, strLen, minS, maxS, pickS, plainS, oneS, onesS, cellsS, ev, evs, getS, ofVal, takeN, takeAt, layN, nthS, setN, snoc, lenN, unw, memN, trimS, TE.sv, argS, cxOf, lays, ↓reduceIte, reduceCtorEq, Value.oneCell', Nat.reduceEqDiff, Nat.reduceAdd, Nat.reduceLT, Nat.reduceBEq, Nat.reduceSub, Nat.reduceLeDiff, e00, e01, e02, e03, e04, e05, e06, e07, e08, e09, e10, e11, e12, e13, e14, e15, e16, e17, e18, e19, e20, e21, e22, e23, e24, e25, e26, e27, e28, e29, e30, e31, e32, e33, e34, cE, cOE, hcs, hap, killE, deadOf, rwE, cD, cO, consD, gdS, eqB, newC, mkV, storeC, firstN, snocAll, appAll, dropN, repN, putSl, slAt, allL, lvC, softC, ckD, ckO, hcallC, wfC, wfL, wfE, wfV, hP, hk, res15, kp15, dO, dR, dL, dT, rowText, rowLeft, rowDflag, rowDtold, rowDall, xqS, anM, itM, Int.toNat_natCast, Nat.mul_one, Nat.reduceMul, Int.le_refl, k0, k1, k5, k6, k7, k8, k9, hlt, f7, f1, Bool.not_true, e11, e12, e7, e5])
    repeat (refine ⟨by first | decide | omega | (simp only [List.length_append, List.length_cons, List.length_nil]; omega), ?_⟩)
    exact fin _ _ (by simp [dReply, m_me, m_mg, m_ms, m_md, m_ma, crlf, sizeT, hlt2, h1, s5])
  have e5 : (a.st == 5) = false := by simpa using s5
  have hleaf : True := trivial
  by_cases n0 : r.name = [109, 101]
  · have g0 : (r.name == [109, 101]) = true := by rw [n0]; rfl
    have g1 : (r.name == [109, 103]) = false := by rw [n0]; rfl
    have g2 : (r.name == [109, 115]) = false := by rw [n0]; rfl
    have g3 : (r.name == [109, 100]) = false := by rw [n0]; rfl
    have g4 : (r.name == [109, 97]) = false := by rw [n0]; rfl
    by_cases t1 : a.st = 1
    · have u1 : (a.st == 1) = true := by rw [t1]; rfl
      have u4 : (a.st == 4) = false := by rw [t1]; rfl
      (refine VT_ok hctr (rs := res15) true 300 _ _ _ ?_; simp (config := { maxSteps := 1000000 }) only [VT, f00, f01, opG_t, opG_f, putG_t, putG_f, VC, appL, repZ, mkFs, newSl, resS, teS, resV, opK, putK, storeK, softS, eqC, eqCs, callS, moveS, loadS, nilS, binV, binS, unS, convS, faS, fldS, iaS, ixS, slS, lenS, buildS, fillS, extS, ifS, capsS, boundS, strLen, minS, maxS, pickS, plainS, oneS, onesS, cellsS, ev, evs, getS, ofVal, takeN, takeAt, layN, nthS, setN, snoc, lenN, unw, memN, trimS, TE.sv, argS, cxOf, lays, ↓reduceIte, reduceCtorEq, Value.oneCell', Nat.reduceEqDiff, Nat.reduceAdd, Nat.reduceLT, Nat.reduceBEq, Nat.reduceSub, Nat.reduceLeDiff, e00, e01, e02, e03, e04, e05, e06, e07, e08, e09, e10, e11, e12, e13, e14, e15, e16, e17, e18, e19, e20, e21, e22, e23, e24, e25, e26, e27, e28, e29, e30, e31, e32, e33, e34, cE, cOE, hcs, hap, killE, deadOf, rwE, cD, cO, consD, gdS, eqB, newC, mkV, storeC, firstN, snocAll, appAll, dropN, repN, putSl, slAt, allL, lvC, softC, ckD, ckO, hcallC, wfC, wfL, wfE, wfV, hP, hk, res15, kp15, dO, dR, dL, dT, rowText, rowLeft, rowDflag, rowDtold, rowDall, xqS, anM, itM, Int.toNat_natCast, Nat.mul_one, Nat.reduceMul, Int.le_refl, k0, k1, k5, k6, k7, k8, k9, hlt, f7, f1, Bool.not_true, e11, e12, e7, e5, g0, g1, g2, g3, g4, u1, u4])
      (refine Run_drawD hctr (by rw [hP]; rfl) rs15_16 [] (ensure_type_of% (Cmp.of (by simp (config := { maxSteps := 1000000 }) only [VC, appL, repZ, mkFs, newSl, resS, teS, resV, opK, putK, storeK, softS, eqC, eqCs, callS, moveS, loadS, nilS, binV, binS, unS, convS, faS, fldS, iaS, ixS, slS, lenS, buildS, fillS, extS, ifS, capsS, boundS, strLen, minS, maxS, pickS, plainS, oneS, onesS, cellsS, ev, evs, getS, ofVal, takeN, takeAt, layN, nthS, setN, snoc, lenN, unw, memN, trimS, TE.sv, argS, cxOf, lays, ↓reduceIte, reduceCtorEq, Value.oneCell', Nat.reduceEqDiff, Nat.reduceAdd, Nat.reduceLT, Nat.reduceBEq, Nat.reduceSub, Nat.reduceLeDiff, e00, e01, e02, e03, e04, e05, e06, e07, e08, e09, e10, e11, e12, e13, e14, e15, e16, e17, e18, e19, e20, e21, e22, e23, e24, e25, e26, e27, e28, e29, e30, e31, e32, e33, e34, cE, cOE, hcs, hap, killE, deadOf, rwE, cD, cO, consD, gdS, eqB, newC, mkV, storeC, firstN, snocAll, appAll, dropN, repN, putSl, slAt, allL, lvC, softC, ckD, ckO, hcallC, wfC, wfL, wfE, wfV, hP, dO, dR, dL, dT, rowText, rowLeft, rowDflag, rowDtold, rowDall, xqS, anM, itM, Int.toNat_natCast, Nat.mul_one, Nat.reduceMul, Int.le_refl, k0, k1, k5, k6, k7, k8, k9, hlt, f7, f1, Bool.not_true, e11, e12, e7, e5, g0, g1, g2, g3, g4, u1, u4]; rfl)) "" Cmp.mk) (by kernel_rfl) (by kernel_rfl) (by first | exact lenB_one _ | kernel_rfl) (by kernel_rfl) (by rfl) (by rfl) (by first | exact firstN_self _ | rfl) (by rfl) ?_ ?_; rotate_left; refine VT_ok hctr (rs := res15) true 300 _ _ _ ?_; simp (config := { maxSteps := 1000000 }) only [VT, f00, f01, opG_t, opG_f, putG_t, putG_f, VC, appL, repZ, mkFs, newSl, resS, teS, resV, opK, putK, storeK, softS, eqC, eqCs, callS, moveS, loadS, nilS, binV, binS, unS, convS, faS, fldS, iaS, ixS, slS, lenS, buildS, fillS, extS, ifS, capsS, boundS, strLen, minS, maxS, pickS, plainS, oneS, onesS, cellsS, ev, evs, getS, ofVal, takeN, takeAt, layN, nthS, setN, snoc, lenN, unw, memN, trimS, TE.sv, argS, cxOf, lays, ↓reduceIte, reduceCtorEq, Value.oneCell', Nat.reduceEqDiff, Nat.reduceAdd, Nat.reduceLT, Nat.reduceBEq, Nat.reduceSub, Nat.reduceLeDiff, e00, e01, e02, e03, e04, e05, e06, e07, e08, e09, e10, e11, e12, e13, e14, e15, e16, e17, e18, e19, e20, e21, e22, e23, e24, e25, e26, e27, e28, e29, e30, e31, e32, e33, e34, cE, cOE, hcs, hap, killE, deadOf, rwE, cD, cO, consD, gdS, eqB, newC, mkV, storeC, firstN, snocAll, appAll, dropN, repN, putSl, slAt, allL, lvC, softC, ckD, ckO, hcallC, wfC, wfL, wfE, wfV, hP, hk, res15, kp15, dO, dR, dL, dT, rowText, rowLeft, rowDflag, rowDtold, rowDall, xqS, anM, itM, Int.toNat_natCast, Nat.mul_one, Nat.reduceMul, Int.le_refl, k0, k1, k5, k6, k7, k8, k9, hlt, f7, f1, Bool.not_true, e11, e12, e7, e5, g0, g1, g2, g3, g4, u1, u4]; rotate_left; simp (config := { maxSteps := 1000000 }) only [VC, appL, repZ, mkFs, newSl, resS, teS, resV, opK, putK, storeK, softS, eqC, eqCs, callS, moveS, loadS, nilS, binV, binS, unS, convS, faS, fldS, iaS, ixS, slS, lenS, buildS, fillS, extS, ifS, capsS, boundS, strLen, minS, maxS, pickS, plainS, oneS, onesS, cellsS, ev, evs, getS, ofVal, takeN, takeAt, layN, nthS, setN, snoc, lenN, unw, memN, trimS, TE.sv, argS, cxOf, lays, ↓reduceIte, reduceCtorEq, Value.oneCell', Nat.reduceEqDiff, Nat.reduceAdd, Nat.reduceLT, Nat.reduceBEq, Nat.reduceSub, Nat.reduceLeDiff, e00, e01, e02, e03, e04, e05, e06, e07, e08, e09, e10, e11, e12, e13, e14, e15, e16, e17, e18, e19, e20, e21, e22, e23, e24, e25, e26, e27, e28, e29, e30, e31, e32, e33, e34, cE, cOE, hcs, hap, killE, deadOf, rwE, cD, cO, consD, gdS, eqB, newC, mkV, storeC, firstN, snocAll, appAll, dropN, repN, putSl, slAt, allL, lvC, softC, ckD, ckO, hcallC, wfC, wfL, wfE, wfV, hP, dO, dR, dL, dT, rowText, rowLeft, rowDflag, rowDtold, rowDall, xqS, anM, itM, Int.toNat_natCast, Nat.mul_one, Nat.reduceMul, Int.le_refl, k0, k1, k5, k6, k7, k8, k9, hlt, f7, f1, Bool.not_true, e11, e12, e7, e5, g0, g1, g2, g3, g4, u1, u4])
      · simp only [List.length_append, List.length_cons, List.length_nil]; omega
      exact fin _ _ (by simp [dReply, m_me, m_mg, m_ms, m_md, m_ma, crlf, sizeT, hlt2, h1, t1, n0])
    have u1 : (a.st == 1) = false := by simpa using t1
    by_cases t4 : a.st = 4
    · have u1 : (a.st == 1) = false := by rw [t4]; rfl
      have u4 : (a.st == 4) = true := by rw [t4]; rfl
      (refine VT_ok hctr (rs := res15) true 300 _ _ _ ?_; simp (config := { maxSteps := 1000000 }) only [VT, f00, f01, opG_t, opG_f, putG_t, putG_f, VC, appL, repZ, mkFs, newSl, resS, teS, resV, opK, putK, storeK, softS, eqC, eqCs, callS, moveS, loadS, nilS, binV, binS, unS, convS, faS, fldS, iaS, ixS, slS, lenS, buildS, fillS, extS, ifS, capsS, boundS, strLen, minS, maxS, pickS, plainS, oneS, onesS, cellsS, ev, evs, getS, ofVal, takeN, takeAt, layN, nthS, setN, snoc, lenN, unw, memN, trimS, TE.sv, argS, cxOf, lays, ↓reduceIte, reduceCtorEq, Value.oneCell', Nat.reduceEqDiff, Nat.reduceAdd, Nat.reduceLT, Nat.reduceBEq, Nat.reduceSub, Nat.reduceLeDiff, e00, e01, e02, e03, e04, e05, e06, e07, e08, e09, e10, e11, e12, e13, e14, e15, e16, e17, e18, e19, e20, e21, e22, e23, e24, e25, e26, e27, e28, e29, e30, e31, e32, e33, e34, cE, cOE, hcs, hap, killE, deadOf, rwE, cD, cO, consD, gdS, eqB, newC, mkV, storeC, firstN, snocAll, appAll, dropN, repN, putSl, slAt, allL, lvC, softC, ckD, ckO, hcallC, wfC, wfL, wfE, wfV, hP, hk, res15, kp15, dO, dR, dL, dT, rowText, rowLeft, rowDflag, rowDtold, rowDall, xqS, anM, itM, Int.toNat_natCast, Nat.mul_one, Nat.reduceMul, Int.le_refl, k0, k1, k5, k6, k7, k8, k9, hlt, f7, f1, Bool.not_true, e11, e12, e7, e5, g0, g1, g2, g3, g4, u1, u4])
      repeat (refine ⟨by first | decide | omega | (simp only [List.length_append, List.length_cons, List.length_nil]; omega), ?_⟩)
      exact fin _ _ (by simp [dReply, m_me, m_mg, m_ms, m_md, m_ma, crlf, sizeT, hlt2, h1, t4, n0])
    have u4 : (a.st == 4) = false := by simpa using t4
    (refine VT_ok hctr (rs := res15) true 300 _ _ _ ?_; simp (config := { maxSteps := 1000000 }) only [VT, f00, f01, opG_t, opG_f, putG_t, putG_f, VC, appL, repZ, mkFs, newSl, resS, teS, resV, opK, putK, storeK, softS, eqC, eqCs, callS, moveS, loadS, nilS, binV, binS, unS, convS, faS, fldS, iaS, ixS, slS, lenS, buildS, fillS, extS, ifS, capsS, boundS, strLen, minS, maxS, pickS, plainS, oneS, onesS, cellsS, ev, evs, getS, ofVal, takeN, takeAt, layN, nthS, setN, snoc, lenN, unw, memN, trimS, TE.sv, argS, cxOf, lays, ↓reduceIte, reduceCtorEq, Value.oneCell', Nat.reduceEqDiff, Nat.reduceAdd, Nat.reduceLT, Nat.reduceBEq, Nat.reduceSub, Nat.reduceLeDiff, e00, e01, e02, e03, e04, e05, e06, e07, e08, e09, e10, e11, e12, e13, e14, e15, e16, e17, e18, e19, e20, e21, e22, e23, e24, e25, e26, e27, e28, e29, e30, e31, e32, e33, e34, cE, cOE, hcs, hap, killE, deadOf, rwE, cD, cO, consD, gdS, eqB, newC, mkV, storeC, firstN, snocAll, appAll, dropN, repN, putSl, slAt, allL, lvC, softC, ckD, ckO, hcallC, wfC, wfL, wfE, wfV, hP, hk, res15, kp15, dO, dR, dL, dT, rowText, rowLeft, rowDflag, rowDtold, rowDall, xqS, anM, itM, Int.toNat_natCast, Nat.mul_one, Nat.reduceMul, Int.le_refl, k0, k1, k5, k6, k7, k8, k9, hlt, f7, f1, Bool.not_true, e11, e12, e7, e5, g0, g1, g2, g3, g4, u1, u4])
    repeat (refine ⟨by first | decide | omega | (simp only [List.length_append, List.length_cons, List.length_nil]; omega), ?_⟩)
    exact fin _ _ (by simp [dReply, m_me, m_mg, m_ms, m_md, m_ma, crlf, sizeT, hlt2, h1, s11, s12, s7, s5, t1, t4, n0])
  have g0 : (r.name == [109, 101]) = false := by simpa using n0
  by_cases n1 : r.name = [109, 103]
  · have g1 : (r.name == [109, 103]) = true := by rw [n1]; rfl
    have g0 : (r.name == [109, 101]) = false := by rw [n1]; rfl
    have g2 : (r.name == [109, 115]) = false := by rw [n1]; rfl
    have g3 : (r.name == [109, 100]) = false := by rw [n1]; rfl
    have g4 : (r.name == [109, 97]) = false := by rw [n1]; rfl
    by_cases t1 : a.st = 1
    · have u1 : (a.st == 1) = true := by rw [t1]; rfl
      have u4 : (a.st == 4) = false := by rw [t1]; rfl
      (refine VT_ok hctr (rs := res15) true 300 _ _ _ ?_; simp (config := { maxSteps := 1000000 }) only [VT, f00, f01, opG_t, opG_f, putG_t, putG_f, VC, appL, repZ, mkFs, newSl, resS, teS, resV, opK, putK, storeK, softS, eqC, eqCs, callS, moveS, loadS, nilS, binV, binS, unS, convS, faS, fldS, iaS, ixS, slS, lenS, buildS, fillS, extS, ifS, capsS, boundS, strLen, minS, maxS, pickS, plainS, oneS, onesS, cellsS, ev, evs, getS, ofVal, takeN, takeAt, layN, nthS, setN, snoc, lenN, unw, memN, trimS, TE.sv, argS, cxOf, lays, ↓reduceIte, reduceCtorEq, Value.oneCell', Nat.reduceEqDiff, Nat.reduceAdd, Nat.reduceLT, Nat.reduceBEq, Nat.reduceSub, Nat.reduceLeDiff, e00, e01, e02, e03, e04, e05, e06, e07, e08, e09, e10, e11, e12, e13, e14, e15, e16, e17, e18, e19, e20, e21, e22, e23, e24, e25, e26, e27, e28, e29, e30, e31, e32, e33, e34, cE, cOE, hcs, hap, killE, deadOf, rwE, cD, cO, consD, gdS, eqB, newC, mkV, storeC, firstN, snocAll, appAll, dropN, repN, putSl, slAt, allL, lvC, softC, ckD, ckO, hcallC, wfC, wfL, wfE, wfV, hP, hk, res15, kp15, dO, dR, dL, dT, rowText, rowLeft, rowDflag, rowDtold, rowDall, xqS, anM, itM, Int.toNat_natCast, Nat.mul_one, Nat.reduceMul, Int.le_refl, k0, k1, k5, k6, k7, k8, k9, hlt, f7, f1, Bool.not_true, e11, e12, e7, e5, g0, g1, g2, g3, g4, u1, u4])
      repeat (refine ⟨by first | decide | omega | (simp only [List.length_append, List.length_cons, List.length_nil]; omega), ?_⟩)
      exact fin _ _ (by simp [dReply, m_me, m_mg, m_ms, m_md, m_ma, crlf, sizeT, hlt2, h1, t1, n1])
    have u1 : (a.st == 1) = false := by simpa using t1
    by_cases t4 : a.st = 4
    · have u1 : (a.st == 1) = false := by rw [t4]; rfl
      have u4 : (a.st == 4) = true := by rw [t4]; rfl
      (refine VT_ok hctr (rs := res15) true 300 _ _ _ ?_; simp (config := { maxSteps := 1000000 }) only [VT, f00, f01, opG_t, opG_f, putG_t, putG_f, VC, appL, repZ, mkFs, newSl, resS, teS, resV, opK, putK, storeK, softS, eqC, eqCs, callS, moveS, loadS, nilS, binV, binS, unS, convS, faS, fldS, iaS, ixS, slS, lenS, buildS, fillS, extS, ifS, capsS, boundS, strLen, minS, maxS, pickS, plainS, oneS, onesS, cellsS, ev, evs, getS, ofVal, takeN, takeAt, layN, nthS, setN, snoc, lenN, unw, memN, trimS, TE.sv, argS, cxOf, lays, ↓reduceIte, reduceCtorEq, Value.oneCell', Nat.reduceEqDiff, Nat.reduceAdd, Nat.reduceLT, Nat.reduceBEq, Nat.reduceSub, Nat.reduceLeDiff, e00, e01, e02, e03, e04, e05, e06, e07, e08, e09, e10, e11, e12, e13, e14, e15, e16, e17, e18, e19, e20, e21, e22, e23, e24, e25, e26, e27, e28, e29, e30, e31, e32, e33, e34, cE, cOE, hcs, hap, killE, deadOf, rwE, cD, cO, consD, gdS, eqB, newC, mkV, storeC, firstN, snocAll, appAll, dropN, repN, putSl, slAt, allL, lvC, softC, ckD, ckO, hcallC, wfC, wfL, wfE, wfV, hP, hk, res15, kp15, dO, dR, dL, dT, rowText, rowLeft, rowDflag, rowDtold, rowDall, xqS, anM, itM, Int.toNat_natCast, Nat.mul_one, Nat.reduceMul, Int.le_refl, k0, k1, k5, k6, k7, k8, k9, hlt, f7, f1, Bool.not_true, e11, e12, e7, e5, g0, g1, g2, g3, g4, u1, u4])
      repeat (refine ⟨by first | decide | omega | (simp only [List.length_append, List.length_cons, List.length_nil]; omega), ?_⟩)
      exact fin _ _ (by simp [dReply, m_me, m_mg, m_ms, m_md, m_ma, crlf, sizeT, hlt2, h1, t4, n1])
    have u4 : (a.st == 4) = false := by simpa using t4
    (refine VT_ok hctr (rs := res15) true 300 _ _ _ ?_; simp (config := { maxSteps := 1000000 }) only [VT, f00, f01, opG_t, opG_f, putG_t, putG_f, VC, appL, repZ, mkFs, newSl, resS, teS, resV, opK, putK, storeK, softS, eqC, eqCs, callS, moveS, loadS, nilS, binV, binS, unS, convS, faS, fldS, iaS, ixS, slS, lenS, buildS, fillS, extS, ifS, capsS, boundS, strLen, minS, maxS, pickS, plainS, oneS, onesS, cellsS, ev, evs, getS, ofVal, takeN, takeAt, layN, nthS, setN, snoc, lenN, unw, memN, trimS, TE.sv, argS, cxOf, lays, ↓reduceIte, reduceCtorEq, Value.oneCell', Nat.reduceEqDiff, Nat.reduceAdd, Nat.reduceLT, Nat.reduceBEq, Nat.reduceSub, Nat.reduceLeDiff, e00, e01, e02, e03, e04, e05, e06, e07, e08, e09, e10, e11, e12, e13, e14, e15, e16, e17, e18, e19, e20, e21, e22, e23, e24, e25, e26, e27, e28, e29, e30, e31, e32, e33, e34, cE, cOE, hcs, hap, killE, deadOf, rwE, cD, cO, consD, gdS, eqB, newC, mkV, storeC, firstN, snocAll, appAll, dropN, repN, putSl, slAt, allL, lvC, softC, ckD, ckO, hcallC, wfC, wfL, wfE, wfV, hP, hk, res15, kp15, dO, dR, dL, dT, rowText, rowLeft, rowDflag, rowDtold, rowDall, xqS, anM, itM, Int.toNat_natCast, Nat.mul_one, Nat.reduceMul, Int.le_refl, k0, k1, k5, k6, k7, k8, k9, hlt, f7, f1, Bool.not_true, e11, e12, e7, e5, g0, g1, g2, g3, g4, u1, u4])
    repeat (refine ⟨by first | decide | omega | (simp only [List.length_append, List.length_cons, List.length_nil]; omega), ?_⟩)
    exact fin _ _ (by simp [dReply, m_me, m_mg, m_ms, m_md, m_ma, crlf, sizeT, hlt2, h1, s11, s12, s7, s5, t1, t4, n1])
  have g1 : (r.name == [109, 103]) = false := by simpa using n1
  by_cases n2 : r.name = [109, 115]
  · have g2 : (r.name == [109, 115]) = true := by rw [n2]; rfl
    have g0 : (r.name == [109, 101]) = false := by rw [n2]; rfl
    have g1 : (r.name == [109, 103]) = false := by rw [n2]; rfl
    have g3 : (r.name == [109, 100]) = false := by rw [n2]; rfl
    have g4 : (r.name == [109, 97]) = false := by rw [n2]; rfl
    by_cases t2 : a.st = 2
    · have u2 : (a.st == 2) = true := by rw [t2]; rfl
      have u9 : (a.st == 9) = false := by rw [t2]; rfl
      have u3 : (a.st == 3) = false := by rw [t2]; rfl
      have u4 : (a.st == 4) = false := by rw [t2]; rfl
      (refine VT_ok hctr (rs := res15) true 300 _ _ _ ?_; simp (config := { maxSteps := 1000000 }) only [VT, f00, f01, opG_t, opG_f, putG_t, putG_f, VC, appL, repZ, mkFs, newSl, resS, teS, resV, opK, putK, storeK, softS, eqC, eqCs, callS, moveS, loadS, nilS, binV, binS, unS, convS, faS, fldS, iaS, ixS, slS, lenS, buildS, fillS, extS, ifS, capsS, boundS, strLen, minS, maxS, pickS, plainS, oneS, onesS, cellsS, ev, evs, getS, ofVal, takeN, takeAt, layN, nthS, setN, snoc, lenN, unw, memN, trimS, TE.sv, argS, cxOf, lays, ↓reduceIte, reduceCtorEq, Value.oneCell', Nat.reduceEqDiff, Nat.reduceAdd, Nat.reduceLT, Nat.reduceBEq, Nat.reduceSub, Nat.reduceLeDiff, e00, e01, e02, e03, e04, e05, e06, e07, e08, e09, e10, e11, e12, e13, e14, e15, e16, e17, e18, e19, e20, e21, e22, e23, e24, e25, e26, e27, e28, e29, e30, e31, e32, e33, e34, cE, cOE, hcs, hap, killE, deadOf, rwE, cD, cO, consD, gdS, eqB, newC, mkV, storeC, firstN, snocAll, appAll, dropN, repN, putSl, slAt, allL, lvC, softC, ckD, ckO, hcallC, wfC, wfL, wfE, wfV, hP, hk, res15, kp15, dO, dR, dL, dT, rowText, rowLeft, rowDflag, rowDtold, rowDall, xqS, anM, itM, Int.toNat_natCast, Nat.mul_one, Nat.reduceMul, Int.le_refl, k0, k1, k5, k6, k7, k8, k9, hlt, f7, f1, Bool.not_true, e11, e12, e7, e5, g0, g1, g2, g3, g4, u2, u9, u3, u4])
      repeat (refine ⟨by first | decide | omega | (simp only [List.length_append, List.length_cons, List.length_nil]; omega), ?_⟩)
      exact fin _ _ (by simp [dReply, m_me, m_mg, m_ms, m_md, m_ma, crlf, sizeT, hlt2, h1, t2, n2])
    have u2 : (a.st == 2) = false := by simpa using t2
    by_cases t9 : a.st = 9
    · have u2 : (a.st == 2) = false := by rw [t9]; rfl
      have u9 : (a.st == 9) = true := by rw [t9]; rfl
      have u3 : (a.st == 3) = false := by rw [t9]; rfl
      have u4 : (a.st == 4) = false := by rw [t9]; rfl
      (refine VT_ok hctr (rs := res15) true 300 _ _ _ ?_; simp (config := { maxSteps := 1000000 }) only [VT, f00, f01, opG_t, opG_f, putG_t, putG_f, VC, appL, repZ, mkFs, newSl, resS, teS, resV, opK, putK, storeK, softS, eqC, eqCs, callS, moveS, loadS, nilS, binV, binS, unS, convS, faS, fldS, iaS, ixS, slS, lenS, buildS, fillS, extS, ifS, capsS, boundS, strLen, minS, maxS, pickS, plainS, oneS, onesS, cellsS, ev, evs, getS, ofVal, takeN, takeAt, layN, nthS, setN, snoc, lenN, unw, memN, trimS, TE.sv, argS, cxOf, lays, ↓reduceIte, reduceCtorEq, Value.oneCell', Nat.reduceEqDiff, Nat.reduceAdd, Nat.reduceLT, Nat.reduceBEq, Nat.reduceSub, Nat.reduceLeDiff, e00, e01, e02, e03, e04, e05, e06, e07, e08, e09, e10, e11, e12, e13, e14, e15, e16, e17, e18, e19, e20, e21, e22, e23, e24, e25, e26, e27, e28, e29, e30, e31, e32, e33, e34, cE, cOE, hcs, hap, killE, deadOf, rwE, cD, cO, consD, gdS, eqB, newC, mkV, storeC, firstN, snocAll, appAll, dropN, repN, putSl, slAt, allL, lvC, softC, ckD, ckO, hcallC, wfC, wfL, wfE, wfV, hP, hk, res15, kp15, dO, dR, dL, dT, rowText, rowLeft, rowDflag, rowDtold, rowDall, xqS, anM, itM, Int.toNat_natCast, Nat.mul_one, Nat.reduceMul, Int.le_refl, k0, k1, k5, k6, k7, k8, k9, hlt, f7, f1, Bool.not_true, e11, e12, e7, e5, g0, g1, g2, g3, g4, u2, u9, u3, u4])
      repeat (refine ⟨by first | decide | omega | (simp only [List.length_append, List.length_cons, List.length_nil]; omega), ?_⟩)
      exact fin _ _ (by simp [dReply, m_me, m_mg, m_ms, m_md, m_ma, crlf, sizeT, hlt2, h1, t9, n2])
    have u9 : (a.st == 9) = false := by simpa using t9
    by_cases t3 : a.st = 3
    · have u2 : (a.st == 2) = false := by rw [t3]; rfl
      have u9 : (a.st == 9) = false := by rw [t3]; rfl
      have u3 : (a.st == 3) = true := by rw [t3]; rfl
      have u4 : (a.st == 4) = false := by rw [t3]; rfl
      (refine VT_ok hctr (rs := res15) true 300 _ _ _ ?_; simp (config := { maxSteps := 1000000 }) only [VT, f00, f01, opG_t, opG_f, putG_t, putG_f, VC, appL, repZ, mkFs, newSl, resS, teS, resV, opK, putK, storeK, softS, eqC, eqCs, callS, moveS, loadS, nilS, binV, binS, unS, convS, faS, fldS, iaS, ixS, slS, lenS, buildS, fillS, extS, ifS, capsS, boundS, strLen, minS, maxS, pickS, plainS, oneS, onesS, cellsS, ev, evs, getS, ofVal, takeN, takeAt, layN, nthS, setN, snoc, lenN, unw, memN, trimS, TE.sv, argS, cxOf, lays, ↓reduceIte, reduceCtorEq, Value.oneCell', Nat.reduceEqDiff, Nat.reduceAdd, Nat.reduceLT, Nat.reduceBEq, Nat.reduceSub, Nat.reduceLeDiff, e00, e01, e02, e03, e04, e05, e06, e07, e08, e09, e10, e11, e12, e13, e14, e15, e16, e17, e18, e19, e20, e21, e22, e23, e24, e25, e26, e27, e28, e29, e30, e31, e32, e33, e34, cE, cOE, hcs, hap, killE, deadOf, rwE, cD, cO, consD, gdS, eqB, newC, mkV, storeC, firstN, snocAll, appAll, dropN, repN, putSl, slAt, allL, lvC, softC, ckD, ckO, hcallC, wfC, wfL, wfE, wfV, hP, hk, res15, kp15, dO, dR, dL, dT, rowText, rowLeft, rowDflag, rowDtold, rowDall, xqS, anM, itM, Int.toNat_natCast, Nat.mul_one, Nat.reduceMul, Int.le_refl, k0, k1, k5, k6, k7, k8, k9, hlt, f7, f1, Bool.not_true, e11, e12, e7, e5, g0, g1, g2, g3, g4, u2, u9, u3, u4])
      repeat (refine ⟨by first | decide | omega | (simp only [List.length_append, List.length_cons, List.length_nil]; omega), ?_⟩)
      exact fin _ _ (by simp [dReply, m_me, m_mg, m_ms, m_md, m_ma, crlf, sizeT, hlt2, h1, t3, n2])
    have u3 : (a.st == 3) = false := by simpa using t3
    by_cases t4 : a.st = 4
    · have u2 : (a.st == 2) = false := by rw [t4]; rfl
      have u9 : (a.st == 9) = false := by rw [t4]; rfl
      have u3 : (a.st == 3) = false := by rw [t4]; rfl
      have u4 : (a.st == 4) = true := by rw [t4]; rfl
      (refine VT_ok hctr (rs := res15) true 300 _ _ _ ?_; simp (config := { maxSteps := 1000000 }) only [VT, f00, f01, opG_t, opG_f, putG_t, putG_f, VC, appL, repZ, mkFs, newSl, resS, teS, resV, opK, putK, storeK, softS, eqC, eqCs, callS, moveS, loadS, nilS, binV, binS, unS, convS, faS, fldS, iaS, ixS, slS, lenS, buildS, fillS, extS, ifS, capsS, boundS, strLen, minS, maxS, pickS, plainS, oneS, onesS, cellsS, ev, evs, getS, ofVal, takeN, takeAt, layN, nthS, setN, snoc, lenN, unw, memN, trimS, TE.sv, argS, cxOf, lays, ↓reduceIte, reduceCtorEq, Value.oneCell', Nat.reduceEqDiff, Nat.reduceAdd, Nat.reduceLT, Nat.reduceBEq, Nat.reduceSub, Nat.reduceLeDiff, e00, e01, e02, e03, e04, e05, e06, e07, e08, e09, e10, e11, e12, e13, e14, e15, e16, e17, e18, e19, e20, e21, e22, e23, e24, e25, e26, e27, e28, e29, e30, e31, e32, e33, e34, cE, cOE, hcs, hap, killE, deadOf, rwE, cD, cO, consD, gdS, eqB, newC, mkV, storeC, firstN, snocAll, appAll, dropN, repN, putSl, slAt, allL, lvC, softC, ckD, ckO, hcallC, wfC, wfL, wfE, wfV, hP, hk, res15, kp15, dO, dR, dL, dT, rowText, rowLeft, rowDflag, rowDtold, rowDall, xqS, anM, itM, Int.toNat_natCast, Nat.mul_one, Nat.reduceMul, Int.le_refl, k0, k1, k5, k6, k7, k8, k9, hlt, f7, f1, Bool.not_true, e11, e12, e7, e5, g0, g1, g2, g3, g4, u2, u9, u3, u4])
      repeat (refine ⟨by first | decide | omega | (simp only [List.length_append, List.length_cons, List.length_nil]; omega), ?_⟩)
      exact fin _ _ (by simp [dReply, m_me, m_mg, m_ms, m_md, m_ma, crlf, sizeT, hlt2, h1, t4, n2])
    have u4 : (a.st == 4) = false := by simpa using t4
    (refine VT_ok hctr (rs := res15) true 300 _ _ _ ?_; simp (config := { maxSteps := 1000000 }) only [VT, f00, f01, opG_t, opG_f, putG_t, putG_f, VC, appL, repZ, mkFs, newSl, resS, teS, resV, opK, putK, storeK, softS, eqC, eqCs, callS, moveS, loadS, nilS, binV, binS, unS, convS, faS, fldS, iaS, ixS, slS, lenS, buildS, fillS, extS, ifS, capsS, boundS, strLen, minS, maxS, pickS, plainS, oneS, onesS, cellsS, ev, evs, getS, ofVal, takeN, takeAt, layN, nthS, setN, snoc, lenN, unw, memN, trimS, TE.sv, argS, cxOf, lays, ↓reduceIte, reduceCtorEq, Value.oneCell', Nat.reduceEqDiff, Nat.reduceAdd, Nat.reduceLT, Nat.reduceBEq, Nat.reduceSub, Nat.reduceLeDiff, e00, e01, e02, e03, e04, e05, e06, e07, e08, e09, e10, e11, e12, e13, e14, e15, e16, e17, e18, e19, e20, e21, e22, e23, e24, e25, e26, e27, e28, e29, e30, e31, e32, e33, e34, cE, cOE, hcs, hap, killE, deadOf, rwE, cD, cO, consD, gdS, eqB, newC, mkV, storeC, firstN, snocAll, appAll, dropN, repN, putSl, slAt, allL, lvC, softC, ckD, ckO, hcallC, wfC, wfL, wfE, wfV, hP, hk, res15, kp15, dO, dR, dL, dT, rowText, rowLeft, rowDflag, rowDtold, rowDall, xqS, anM, itM, Int.toNat_natCast, Nat.mul_one, Nat.reduceMul, Int.le_refl, k0, k1, k5, k6, k7, k8, k9, hlt, f7, f1, Bool.not_true, e11, e12, e7, e5, g0, g1, g2, g3, g4, u2, u9, u3, u4])
    repeat (refine ⟨by first | decide | omega | (simp only [List.length_append, List.length_cons, List.length_nil]; omega), ?_⟩)
    exact fin _ _ (by simp [dReply, m_me, m_mg, m_ms, m_md, m_ma, crlf, sizeT, hlt2, h1, s11, s12, s7, s5, t2, t9, t3, t4, n2])
  have g2 : (r.name == [109, 115]) = false := by simpa using n2
  by_cases n3 : r.name = [109, 100]
  · have g3 : (r.name == [109, 100]) = true := by rw [n3]; rfl
    have g0 : (r.name == [109, 101]) = false := by rw [n3]; rfl
    have g1 : (r.name == [109, 103]) = false := by rw [n3]; rfl
    have g2 : (r.name == [109, 115]) = false := by rw [n3]; rfl
    have g4 : (r.name == [109, 97]) = false := by rw [n3]; rfl
    by_cases t2 : a.st = 2
    · have u2 : (a.st == 2) = true := by rw [t2]; rfl
      have u9 : (a.st == 9) = false := by rw [t2]; rfl
      have u4 : (a.st == 4) = false := by rw [t2]; rfl
      (refine VT_ok hctr (rs := res15) true 300 _ _ _ ?_; simp (config := { maxSteps := 1000000 }) only [VT, f00, f01, opG_t, opG_f, putG_t, putG_f, VC, appL, repZ, mkFs, newSl, resS, teS, resV, opK, putK, storeK, softS, eqC, eqCs, callS, moveS, loadS, nilS, binV, binS, unS, convS, faS, fldS, iaS, ixS, slS, lenS, buildS, fillS, extS, ifS, capsS, boundS, strLen, minS, maxS, pickS, plainS, oneS, onesS, cellsS, ev, evs, getS, ofVal, takeN, takeAt, layN, nthS, setN, snoc, lenN, unw, memN, trimS, TE.sv, argS, cxOf, lays, ↓reduceIte, reduceCtorEq, Value.oneCell', Nat.reduceEqDiff, Nat.reduceAdd, Nat.reduceLT, Nat.reduceBEq, Nat.reduceSub, Nat.reduceLeDiff, e00, e01, e02, e03, e04, e05, e06, e07, e08, e09, e10, e11, e12, e13, e14, e15, e16, e17, e18, e19, e20, e21, e22, e23, e24, e25, e26, e27, e28, e29, e30, e31, e32, e33, e34, cE, cOE, hcs, hap, killE, deadOf, rwE, cD, cO, consD, gdS, eqB, newC, mkV, storeC, firstN, snocAll, appAll, dropN, repN, putSl, slAt, allL, lvC, softC, ckD, ckO, hcallC, wfC, wfL, wfE, wfV, hP, hk, res15, kp15, dO, dR, dL, dT, rowText, rowLeft, rowDflag, rowDtold, rowDall, xqS, anM, itM, Int.toNat_natCast, Nat.mul_one, Nat.reduceMul, Int.le_refl, k0, k1, k5, k6, k7, k8, k9, hlt, f7, f1, Bool.not_true, e11, e12, e7, e5, g0, g1, g2, g3, g4, u2, u9, u4])
      repeat (refine ⟨by first | decide | omega | (simp only [List.length_append, List.length_cons, List.length_nil]; omega), ?_⟩)
      exact fin _ _ (by simp [dReply, m_me, m_mg, m_ms, m_md, m_ma, crlf, sizeT, hlt2, h1, t2, n3])
    have u2 : (a.st == 2) = false := by simpa using t2
    by_cases t9 : a.st = 9
    · have u2 : (a.st == 2) = false := by rw [t9]; rfl
      have u9 : (a.st == 9) = true := by rw [t9]; rfl
      have u4 : (a.st == 4) = false := by rw [t9]; rfl
      (refine VT_ok hctr (rs := res15) true 300 _ _ _ ?_; simp (config := { maxSteps := 1000000 }) only [VT, f00, f01, opG_t, opG_f, putG_t, putG_f, VC, appL, repZ, mkFs, newSl, resS, teS, resV, opK, putK, storeK, softS, eqC, eqCs, callS, moveS, loadS, nilS, binV, binS, unS, convS, faS, fldS, iaS, ixS, slS, lenS, buildS, fillS, extS, ifS, capsS, boundS, strLen, minS, maxS, pickS, plainS, oneS, onesS, cellsS, ev, evs, getS, ofVal, takeN, takeAt, layN, nthS, setN, snoc, lenN, unw, memN, trimS, TE.sv, argS, cxOf, lays, ↓reduceIte, reduceCtorEq, Value.oneCell', Nat.reduceEqDiff, Nat.reduceAdd, Nat.reduceLT, Nat.reduceBEq, Nat.reduceSub, Nat.reduceLeDiff, e00, e01, e02, e03, e04, e05, e06, e07, e08, e09, e10, e11, e12, e13, e14, e15, e16, e17, e18, e19, e20, e21, e22, e23, e24, e25, e26, e27, e28, e29, e30, e31, e32, e33, e34, cE, cOE, hcs, hap, killE, deadOf, rwE, cD, cO, consD, gdS, eqB, newC, mkV, storeC, firstN, snocAll, appAll, dropN, repN, putSl, slAt, allL, lvC, softC, ckD, ckO, hcallC, wfC, wfL, wfE, wfV, hP, hk, res15, kp15, dO, dR, dL, dT, rowText, rowLeft, rowDflag, rowDtold, rowDall, xqS, anM, itM, Int.toNat_natCast, Nat.mul_one, Nat.reduceMul, Int.le_refl, k0, k1, k5, k6, k7, k8, k9, hlt, f7, f1, Bool.not_true, e11, e12, e7, e5, g0, g1, g2, g3, g4, u2, u9, u4])
      repeat (refine ⟨by first | decide | omega | (simp only [List.length_append, List.length_cons, List.length_nil]; omega), ?_⟩)
      exact fin _ _ (by simp [dReply, m_me, m_mg, m_ms, m_md, m_ma, crlf, sizeT, hlt2, h1, t9, n3])
    have u9 : (a.st == 9) = false := by simpa using t9
    by_cases t4 : a.st = 4
    · have u2 : (a.st == 2) = false := by rw [t4]; rfl
      have u9 : (a.st == 9) = false := by rw [t4]; rfl
      have u4 : (a.st == 4) = true := by rw [t4]; rfl
      (refine VT_ok hctr (rs := res15) true 300 _ _ _ ?_; simp (config := { maxSteps := 1000000 }) only [VT, f00, f01, opG_t, opG_f, putG_t, putG_f, VC, appL, repZ, mkFs, newSl, resS, teS, resV, opK, putK, storeK, softS, eqC, eqCs, callS, moveS, loadS, nilS, binV, binS, unS, convS, faS, fldS, iaS, ixS, slS, lenS, buildS, fillS, extS, ifS, capsS, boundS, strLen, minS, maxS, pickS, plainS, oneS, onesS, cellsS, ev, evs, getS, ofVal, takeN, takeAt, layN, nthS, setN, snoc, lenN, unw, memN, trimS, TE.sv, argS, cxOf, lays, ↓reduceIte, reduceCtorEq, Value.oneCell', Nat.reduceEqDiff, Nat.reduceAdd, Nat.reduceLT, Nat.reduceBEq, Nat.reduceSub, Nat.reduceLeDiff, e00, e01, e02, e03, e04, e05, e06, e07, e08, e09, e10, e11, e12, e13, e14, e15, e16, e17, e18, e19, e20, e21, e22, e23, e24, e25, e26, e27, e28, e29, e30, e31, e32, e33, e34, cE, cOE, hcs, hap, killE, deadOf, rwE, cD, cO, consD, gdS, eqB, newC, mkV, storeC, firstN, snocAll, appAll, dropN, repN, putSl, slAt, allL, lvC, softC, ckD, ckO, hcallC, wfC, wfL, wfE, wfV, hP, hk, res15, kp15, dO, dR, dL, dT, rowText, rowLeft, rowDflag, rowDtold, rowDall, xqS, anM, itM, Int.toNat_natCast, Nat.mul_one, Nat.reduceMul, Int.le_refl, k0, k1, k5, k6, k7, k8, k9, hlt, f7, f1, Bool.not_true, e11, e12, e7, e5, g0, g1, g2, g3, g4, u2, u9, u4])
      repeat (refine ⟨by first | decide | omega | (simp only [List.length_append, List.length_cons, List.length_nil]; omega), ?_⟩)
      exact fin _ _ (by simp [dReply, m_me, m_mg, m_ms, m_md, m_ma, crlf, sizeT, hlt2, h1, t4, n3])
    have u4 : (a.st == 4) = false := by simpa using t4
    (refine VT_ok hctr (rs := res15) true 300 _ _ _ ?_; simp (config := { maxSteps := 1000000 }) only [VT, f00, f01, opG_t, opG_f, putG_t, putG_f, VC, appL, repZ, mkFs, newSl, resS, teS, resV, opK, putK, storeK, softS, eqC, eqCs, callS, moveS, loadS, nilS, binV, binS, unS, convS, faS, fldS, iaS, ixS, slS, lenS, buildS, fillS, extS, ifS, capsS, boundS, strLen, minS, maxS, pickS, plainS, oneS, onesS, cellsS, ev, evs, getS, ofVal, takeN, takeAt, layN, nthS, setN, snoc, lenN, unw, memN, trimS, TE.sv, argS, cxOf, lays, ↓reduceIte, reduceCtorEq, Value.oneCell', Nat.reduceEqDiff, Nat.reduceAdd, Nat.reduceLT, Nat.reduceBEq, Nat.reduceSub, Nat.reduceLeDiff, e00, e01, e02, e03, e04, e05, e06, e07, e08, e09, e10, e11, e12, e13, e14, e15, e16, e17, e18, e19, e20, e21, e22, e23, e24, e25, e26, e27, e28, e29, e30, e31, e32, e33, e34, cE, cOE, hcs, hap, killE, deadOf, rwE, cD, cO, consD, gdS, eqB, newC, mkV, storeC, firstN, snocAll, appAll, dropN, repN, putSl, slAt, allL, lvC, softC, ckD, ckO, hcallC, wfC, wfL, wfE, wfV, hP, hk, res15, kp15, dO, dR, dL, dT, rowText, rowLeft, rowDflag, rowDtold, rowDall, xqS, anM, itM, Int.toNat_natCast, Nat.mul_one, Nat.reduceMul, Int.le_refl, k0, k1, k5, k6, k7, k8, k9, hlt, f7, f1, Bool.not_true, e11, e12, e7, e5, g0, g1, g2, g3, g4, u2, u9, u4])
    repeat (refine ⟨by first | decide | omega | (simp only [List.length_append, List.length_cons, List.length_nil]; omega), ?_⟩)
    exact fin _ _ (by simp [dReply, m_me, m_mg, m_ms, m_md, m_ma, crlf, sizeT, hlt2, h1, s11, s12, s7, s5, t2, t9, t4, n3])
  have g3 : (r.name == [109, 100]) = false := by simpa using n3
  by_cases n4 : r.name = [109, 97]
  · have g4 : (r.name == [109, 97]) = true := by rw [n4]; rfl
    have g0 : (r.name == [109, 101]) = false := by rw [n4]; rfl
    have g1 : (r.name == [109, 103]) = false := by rw [n4]; rfl
    have g2 : (r.name == [109, 115]) = false := by rw [n4]; rfl
    have g3 : (r.name == [109, 100]) = false := by rw [n4]; rfl
    by_cases t6 : a.st = 6
    · have u6 : (a.st == 6) = true := by rw [t6]; rfl
      have u4 : (a.st == 4) = false := by rw [t6]; rfl
      (refine VT_ok hctr (rs := res15) true 300 _ _ _ ?_; simp (config := { maxSteps := 1000000 }) only [VT, f00, f01, opG_t, opG_f, putG_t, putG_f, VC, appL, repZ, mkFs, newSl, resS, teS, resV, opK, putK, storeK, softS, eqC, eqCs, callS, moveS, loadS, nilS, binV, binS, unS, convS, faS, fldS, iaS, ixS, slS, lenS, buildS, fillS, extS, ifS, capsS, boundS, strLen, minS, maxS, pickS, plainS, oneS, onesS, cellsS, ev, evs, getS, ofVal, takeN, takeAt, layN, nthS, setN, snoc, lenN, unw, memN, trimS, TE.sv, argS, cxOf, lays, ↓reduceIte, reduceCtorEq, Value.oneCell', Nat.reduceEqDiff, Nat.reduceAdd, Nat.reduceLT, Nat.reduceBEq, Nat.reduceSub, Nat.reduceLeDiff, e00, e01, e02, e03, e04, e05, e06, e07, e08, e09, e10, e11, e12, e13, e14, e15, e16, e17, e18, e19, e20, e21, e22, e23, e24, e25, e26, e27, e28, e29, e30, e31, e32, e33, e34, cE, cOE, hcs, hap, killE, deadOf, rwE, cD, cO, consD, gdS, eqB, newC, mkV, storeC, firstN, snocAll, appAll, dropN, repN, putSl, slAt, allL, lvC, softC, ckD, ckO, hcallC, wfC, wfL, wfE, wfV, hP, hk, res15, kp15, dO, dR, dL, dT, rowText, rowLeft, rowDflag, rowDtold, rowDall, xqS, anM, itM, Int.toNat_natCast, Nat.mul_one, Nat.reduceMul, Int.le_refl, k0, k1, k5, k6, k7, k8, k9, hlt, f7, f1, Bool.not_true, e11, e12, e7, e5, g0, g1, g2, g3, g4, u6, u4])
      repeat (refine ⟨by first | decide | omega | (simp only [List.length_append, List.length_cons, List.length_nil]; omega), ?_⟩)
      exact fin _ _ (by simp [dReply, m_me, m_mg, m_ms, m_md, m_ma, crlf, sizeT, hlt2, h1, t6, n4])
    have u6 : (a.st == 6) = false := by simpa using t6
    by_cases t4 : a.st = 4
    · have u6 : (a.st == 6) = false := by rw [t4]; rfl
      have u4 : (a.st == 4) = true := by rw [t4]; rfl
      (refine VT_ok hctr (rs := res15) true 300 _ _ _ ?_; simp (config := { maxSteps := 1000000 }) only [VT, f00, f01, opG_t, opG_f, putG_t, putG_f, VC, appL, repZ, mkFs, newSl, resS, teS, resV, opK, putK, storeK, softS, eqC, eqCs, callS, moveS, loadS, nilS, binV, binS, unS, convS, faS, fldS, iaS, ixS, slS, lenS, buildS, fillS, extS, ifS, capsS, boundS, strLen, minS, maxS, pickS, plainS, oneS, onesS, cellsS, ev, evs, getS, ofVal, takeN, takeAt, layN, nthS, setN, snoc, lenN, unw, memN, trimS, TE.sv, argS, cxOf, lays, ↓reduceIte, reduceCtorEq, Value.oneCell', Nat.reduceEqDiff, Nat.reduceAdd, Nat.reduceLT, Nat.reduceBEq, Nat.reduceSub, Nat.reduceLeDiff, e00, e01, e02, e03, e04, e05, e06, e07, e08, e09, e10, e11, e12, e13, e14, e15, e16, e17, e18, e19, e20, e21, e22, e23, e24, e25, e26, e27, e28, e29, e30, e31, e32, e33, e34, cE, cOE, hcs, hap, killE, deadOf, rwE, cD, cO, consD, gdS, eqB, newC, mkV, storeC, firstN, snocAll, appAll, dropN, repN, putSl, slAt, allL, lvC, softC, ckD, ckO, hcallC, wfC, wfL, wfE, wfV, hP, hk, res15, kp15, dO, dR, dL, dT, rowText, rowLeft, rowDflag, rowDtold, rowDall, xqS, anM, itM, Int.toNat_natCast, Nat.mul_one, Nat.reduceMul, Int.le_refl, k0, k1, k5, k6, k7, k8, k9, hlt, f7, f1, Bool.not_true, e11, e12, e7, e5, g0, g1, g2, g3, g4, u6, u4])
      repeat (refine ⟨by first | decide | omega | (simp only [List.length_append, List.length_cons, List.length_nil]; omega), ?_⟩)
      exact fin _ _ (by simp [dReply, m_me, m_mg, m_ms, m_md, m_ma, crlf, sizeT, hlt2, h1, t4, n4])
    have u4 : (a.st == 4) = false := by simpa using t4
    (refine VT_ok hctr (rs := res15) true 300 _ _ _ ?_; simp (config := { maxSteps := 1000000 }) only [VT, f00, f01, opG_t, opG_f, putG_t, putG_f, VC, appL, repZ, mkFs, newSl, resS, teS, resV, opK, putK, storeK, softS, eqC, eqCs, callS, moveS, loadS, nilS, binV, binS, unS, convS, faS, fldS, iaS, ixS, slS, lenS, buildS, fillS, extS, ifS, capsS, boundS, strLen, minS, maxS, pickS, plainS, oneS, onesS, cellsS, ev, evs, getS, ofVal, takeN, takeAt, layN, nthS, setN, snoc, lenN, unw, memN, trimS, TE.sv, argS, cxOf, lays, ↓reduceIte, reduceCtorEq, Value.oneCell', Nat.reduceEqDiff, Nat.reduceAdd, Nat.reduceLT, Nat.reduceBEq, Nat.reduceSub, Nat.reduceLeDiff, e00, e01, e02, e03, e04, e05, e06, e07, e08, e09, e10, e11, e12, e13, e14, e15, e16, e17, e18, e19, e20, e21, e22, e23, e24, e25, e26, e27, e28, e29, e30, e31, e32, e33, e34, cE, cOE, hcs, hap, killE, deadOf, rwE, cD, cO, consD, gdS, eqB, newC, mkV, storeC, firstN, snocAll, appAll, dropN, repN, putSl, slAt, allL, lvC, softC, ckD, ckO, hcallC, wfC, wfL, wfE, wfV, hP, hk, res15, kp15, dO, dR, dL, dT, rowText, rowLeft, rowDflag, rowDtold, rowDall, xqS, anM, itM, Int.toNat_natCast, Nat.mul_one, Nat.reduceMul, Int.le_refl, k0, k1, k5, k6, k7, k8, k9, hlt, f7, f1, Bool.not_true, e11, e12, e7, e5, g0, g1, g2, g3, g4, u6, u4])
    repeat (refine ⟨by first | decide | omega | (simp only [List.length_append, List.length_cons, List.length_nil]; omega), ?_⟩)
    exact fin _ _ (by simp [dReply, m_me, m_mg, m_ms, m_md, m_ma, crlf, sizeT, hlt2, h1, s11, s12, s7, s5, t6, t4, n4])
  have g4 : (r.name == [109, 97]) = false := by simpa using n4
  by_cases t4 : a.st = 4
  · have u4 : (a.st == 4) = true := by rw [t4]; rfl
    (refine VT_ok hctr (rs := res15) true 300 _ _ _ ?_; simp (config := { maxSteps := 1000000 }) only [VT, f00, f01, opG_t, opG_f, putG_t, putG_f, VC, appL, repZ, mkFs, newSl, resS, teS, resV, opK, putK, storeK, softS, eqC, eqCs, callS, moveS, loadS, nilS, binV, binS, unS, convS, faS, fldS, iaS, ixS, slS, lenS, buildS, fillS, extS, ifS, capsS, boundS, strLen, minS, maxS, pickS, plainS, oneS, onesS, cellsS, ev, evs, getS, ofVal, takeN, takeAt, layN, nthS, setN, snoc, lenN, unw, memN, trimS, TE.sv, argS, cxOf, lays, ↓reduceIte, reduceCtorEq, Value.oneCell', Nat.reduceEqDiff, Nat.reduceAdd, Nat.reduceLT, Nat.reduceBEq, Nat.reduceSub, Nat.reduceLeDiff, e00, e01, e02, e03, e04, e05, e06, e07, e08, e09, e10, e11, e12, e13, e14, e15, e16, e17, e18, e19, e20, e21, e22, e23, e24, e25, e26, e27, e28, e29, e30, e31, e32, e33, e34, cE, cOE, hcs, hap, killE, deadOf, rwE, cD, cO, consD, gdS, eqB, newC, mkV, storeC, firstN, snocAll, appAll, dropN, repN, putSl, slAt, allL, lvC, softC, ckD, ckO, hcallC, wfC, wfL, wfE, wfV, hP, hk, res15, kp15, dO, dR, dL, dT, rowText, rowLeft, rowDflag, rowDtold, rowDall, xqS, anM, itM, Int.toNat_natCast, Nat.mul_one, Nat.reduceMul, Int.le_refl, k0, k1, k5, k6, k7, k8, k9, hlt, f7, f1, Bool.not_true, e11, e12, e7, e5, g0, g1, g2, g3, g4, u4])
    repeat (refine ⟨by first | decide | omega | (simp only [List.length_append, List.length_cons, List.length_nil]; omega), ?_⟩)
    exact fin _ _ (by simp [dReply, m_me, m_mg, m_ms, m_md, m_ma, crlf, sizeT, hlt2, h1, t4, n0, n1, n2, n3, n4])
  have u4 : (a.st == 4) = false := by simpa using t4
  (refine VT_ok hctr (rs := res15) true 300 _ _ _ ?_; simp (config := { maxSteps := 1000000 }) only [VT, f00, f01, opG_t, opG_f, putG_t, putG_f, VC, appL, repZ, mkFs, newSl, resS, teS, resV, opK, putK, storeK, softS, eqC, eqCs, callS, moveS, loadS, nilS, binV, binS, unS, convS, faS, fldS, iaS, ixS, slS, lenS, buildS, fillS, extS, ifS, capsS, boundS, strLen, minS, maxS, pickS, plainS, oneS, onesS, cellsS, ev, evs, getS, ofVal, takeN, takeAt, layN, nthS, setN, snoc, lenN, unw, memN, trimS, TE.sv, argS, cxOf, lays, ↓reduceIte, reduceCtorEq, Value.oneCell', Nat.reduceEqDiff, Nat.reduceAdd, Nat.reduceLT, Nat.reduceBEq, Nat.reduceSub, Nat.reduceLeDiff, e00, e01, e02, e03, e04, e05, e06, e07, e08, e09, e10, e11, e12, e13, e14, e15, e16, e17, e18, e19, e20, e21, e22, e23, e24, e25, e26, e27, e28, e29, e30, e31, e32, e33, e34, cE, cOE, hcs, hap, killE, deadOf, rwE, cD, cO, consD, gdS, eqB, newC, mkV, storeC, firstN, snocAll, appAll, dropN, repN, putSl, slAt, allL, lvC, softC, ckD, ckO, hcallC, wfC, wfL, wfE, wfV, hP, hk, res15, kp15, dO, dR, dL, dT, rowText, rowLeft, rowDflag, rowDtold, rowDall, xqS, anM, itM, Int.toNat_natCast, Nat.mul_one, Nat.reduceMul, Int.le_refl, k0, k1, k5, k6, k7, k8, k9, hlt, f7, f1, Bool.not_true, e11, e12, e7, e5, g0, g1, g2, g3, g4, u4])
  repeat (refine ⟨by first | decide | omega | (simp only [List.length_append, List.length_cons, List.length_nil]; omega), ?_⟩)
  exact fin _ _ (by simp [dReply, m_me, m_mg, m_ms, m_md, m_ma, crlf, sizeT, hlt2, h1, s11, s12, s7, s5, t4, n0, n1, n2, n3, n4])
end
end Go.Proofs.YtlaagebdbcmckaaGreatDoor
