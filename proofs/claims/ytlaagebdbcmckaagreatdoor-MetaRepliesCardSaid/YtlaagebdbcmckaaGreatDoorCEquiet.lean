/- MetaQuiet, walked. -/
import Derived.Test.YtlaagebdbcmckaaGreatDoorCEshown
import Derived.Test.YtlaagebdbcmckaaGreatDoorCMetaQuietL
namespace Go.Proofs.YtlaagebdbcmckaaGreatDoor
set_option linter.unusedSimpArgs false
set_option linter.unusedVariables false
set_option linter.unusedSimpArgs false
set_option linter.unusedVariables false
set_option maxHeartbeats 8000000
open Go.RowKit
set_option maxRecDepth 100000

def itM (x : It) : List SC := [.s x.key, .i .u32 x.flags, .s x.val, .i .i64 x.exp, .i .u64 x.cas, .i .i64 x.last, .b x.stale, .b x.won]
theorem itM_wf (pr : Nat → Prop) (x : It) : wfs pr (itM x) := by
  intro y hx
  simp only [itM, List.mem_cons, List.not_mem_nil, or_false] at hx
  rcases hx with rfl | rfl | rfl | rfl | rfl | rfl | rfl | rfl <;> trivial
section
variable (ky : List UInt8) (fl : Int) (vl : List UInt8) (ex cas la : Int) (stl won : Bool) (now : Int)
theorem qw1 : mReply ⟨1, [], true, [], 0, false, [109, 103], [[113]], [107]⟩ ⟨1, ⟨ky, fl, vl, ex, cas, la, stl, won⟩, 0, false, false, false⟩ now = [72, 68, 13, 10] := by rfl
theorem qw2 : mReply ⟨1, [], true, [], 0, false, [109, 103], [[113]], [107]⟩ ⟨5, ⟨ky, fl, vl, ex, cas, la, stl, won⟩, 0, false, false, false⟩ now = [] := by rfl
theorem qw3 : mReply ⟨1, [], true, [], 0, false, [109, 115], [[113]], [107]⟩ ⟨2, ⟨ky, fl, vl, ex, cas, la, stl, won⟩, 0, false, false, false⟩ now = [] := by rfl
theorem qw4 : mReply ⟨1, [], true, [], 0, false, [109, 115], [[113]], [107]⟩ ⟨3, ⟨ky, fl, vl, ex, cas, la, stl, won⟩, 0, false, false, false⟩ now = [78, 83, 13, 10] := by rfl
theorem qw5 : mReply ⟨1, [], true, [], 0, false, [109, 115], [[113]], [107]⟩ ⟨4, ⟨ky, fl, vl, ex, cas, la, stl, won⟩, 0, false, false, false⟩ now = [69, 88, 13, 10] := by rfl
theorem qw6 : mReply ⟨1, [], true, [], 0, false, [109, 115], [[113]], [107]⟩ ⟨5, ⟨ky, fl, vl, ex, cas, la, stl, won⟩, 0, false, false, false⟩ now = [78, 70, 13, 10] := by rfl
theorem qw7 : mReply ⟨1, [], true, [], 0, false, [109, 100], [[113]], [107]⟩ ⟨9, ⟨ky, fl, vl, ex, cas, la, stl, won⟩, 0, false, false, false⟩ now = [] := by rfl
theorem qw8 : mReply ⟨1, [], true, [], 0, false, [109, 100], [[113]], [107]⟩ ⟨5, ⟨ky, fl, vl, ex, cas, la, stl, won⟩, 0, false, false, false⟩ now = [] := by rfl
theorem qw9 : mReply ⟨1, [], true, [], 0, false, [109, 100], [[113]], [107]⟩ ⟨4, ⟨ky, fl, vl, ex, cas, la, stl, won⟩, 0, false, false, false⟩ now = [69, 88, 13, 10] := by rfl
theorem qw10 : mReply ⟨1, [], true, [], 0, false, [109, 97], [[113]], [107]⟩ ⟨6, ⟨ky, fl, vl, ex, cas, la, stl, won⟩, 0, false, false, false⟩ now = [] := by rfl
theorem qw11 : mReply ⟨1, [], true, [], 0, false, [109, 97], [[113]], [107]⟩ ⟨5, ⟨ky, fl, vl, ex, cas, la, stl, won⟩, 0, false, false, false⟩ now = [] := by rfl
theorem qw12 : mReply ⟨1, [], true, [], 0, false, [109, 97], [[113]], [107]⟩ ⟨12, ⟨ky, fl, vl, ex, cas, la, stl, won⟩, 0, false, false, false⟩ now = [83, 69, 82, 86, 69, 82, 95, 69, 82, 82, 79, 82, 32, 111, 117, 116, 32, 111, 102, 32, 109, 101, 109, 111, 114, 121, 32, 115, 116, 111, 114, 105, 110, 103, 32, 111, 98, 106, 101, 99, 116, 13, 10] := by rfl
end
theorem rpQ {k : Int} {nm : List UInt8} {a : An} {now : Int} (h1 : a.it.val.length ≤ 9223372036854775807) (c0 : 0 ≤ a.it.cas) (c1 : a.it.cas < 18446744073709551616) (f0 : 0 ≤ a.it.flags) (f1 : a.it.flags < 4294967296) (e0 : 0 ≤ now) (e1 : now ≤ 1099511627776) (e2 : 0 ≤ a.it.exp) (e3 : a.it.exp ≤ 2199023255552) : RpOk ⟨k, [], true, [], 0, false, nm, [[113]], [107]⟩ a now :=
  ⟨by simp, by simp, by simp, h1, (fun h => by cases h), c0, c1, f0, f1, by omega, by omega⟩
def quC : Ctr := fun f en xs => match f with
  | 10 => (match xs with
    | [] => some (True, .c (.b true))
    | _ => none)
  | _ => shM f en xs
theorem quC_ok {C : Cx} (hP : C.P = Tryz.prog) (hE : ∀ w, Upd C.S C.w0 w → EnvT w) : CtrOk C quC := by
  intro f en xs p v h hp ρ w hup hHp hHo hinj hwf
  unfold quC at h
  split at h
  · rw [hP]
    refine ⟨fun args w => Tryz.call10 args w, ?_⟩
    split at h <;> simp only [Option.some.injEq, Prod.mk.injEq, reduceCtorEq] at h
    obtain ⟨_, rfl⟩ := h
    exact ⟨trivial, shownM_w w (hE w hup)⟩
  · exact shM_ok hP (fun w hu => (hE w hu).env) f en xs p v h hp ρ w hup hHp hHo hinj hwf
theorem quiet_walk (x : It) (now : Int) (h1 : x.val.length ≤ 9223372036854775807) (c0 : 0 ≤ x.cas) (c1 : x.cas < 18446744073709551616) (f0 : 0 ≤ x.flags) (f1 : x.flags < 4294967296) (w : World) (hE0 : EnvT w) :
    Calls Tryz.prog 7 #[(SV.g (itM x)).den (fun _ => reOf 0), .int .i64 now] w fun e w' => e = .returned (.bool true) ∧ Below w.heap.size w w' := by
  refine calls_of_Run Tryz.func7 rfl kp7 (S := Non) (ρ := fun _ => reOf 0) (en := []) [.g (itM x), .c (.i .i64 now)] Tryz.ntmps7 (At.nil _ _ _) (by simp only [List.mem_cons, List.not_mem_nil, or_false, forall_eq_or_imp, forall_eq]; exact ⟨itM_wf _ _, trivial⟩) (by simp) ?_
  intro C hC hP hk
  have hE : ∀ w', Upd C.S C.w0 w' → EnvT w' := fun w' hu => by rw [hC] at hu; exact hE0.below hu.to_below
  have hctr := quC_ok hP hE
  have hn0 : C.n0 = 0 := by rw [hC]; rfl
  have fin : ∀ en, Fin C res7 (.c (.b true)) en := fun en => Fin_ro (v := .c (.b true)) hC hres7 rfl trivial
  by_cases n0 : now < 0
  · have g0 : decide (now < 0) = true := decide_eq_true n0
    (refine VT_ok hctr (rs := res7) true 300 _ _ _ ?_; simp (config := { maxSteps := 1000000 }) only [VT, f00, f01, opG_t, opG_f, putG_t, putG_f, VC, appL, repZ, mkFs, newSl, resS, teS, resV, opK, putK, storeK, softS, eqC, eqCs, callS, moveS, loadS, nilS, binV, binS, unS, convS, faS, fldS, iaS, ixS, slS, lenS, buildS, fillS, extS, ifS, capsS, boundS, strLen, minS, maxS, pickS, plainS, oneS, onesS, cellsS, ev, evs, getS, ofVal, takeN, takeAt, layN, nthS, setN, snoc, lenN, unw, memN, trimS, TE.sv, argS, cxOf, lays, ↓reduceIte, reduceCtorEq, Value.oneCell', Nat.reduceEqDiff, Nat.reduceAdd, Nat.reduceLT, Nat.reduceBEq, Nat.reduceSub, Nat.reduceLeDiff, e00, e01, e02, e03, e04, e05, e06, e07, e08, e09, e10, e11, e12, e13, e14, e15, e16, e17, e18, e19, e20, e21, e22, e23, e24, e25, e26, e27, e28, e29, e30, e31, e32, e33, e34, cE, cOE, hcs, hap, killE, deadOf, rwE, cD, cO, consD, gdS, eqB, newC, mkV, storeC, firstN, snocAll, appAll, dropN, repN, putSl, slAt, allL, lvC, softC, ckD, ckO, hcallC, wfC, wfL, wfE, wfV, hP, hk, res7, kp7, quC, itM, g0])
    exact fin _
  have g0 : decide (now < 0) = false := decide_eq_false n0
  by_cases n1 : 1099511627776 < now
  · have g1 : decide (1099511627776 < now) = true := decide_eq_true n1
    (refine VT_ok hctr (rs := res7) true 300 _ _ _ ?_; simp (config := { maxSteps := 1000000 }) only [VT, f00, f01, opG_t, opG_f, putG_t, putG_f, VC, appL, repZ, mkFs, newSl, resS, teS, resV, opK, putK, storeK, softS, eqC, eqCs, callS, moveS, loadS, nilS, binV, binS, unS, convS, faS, fldS, iaS, ixS, slS, lenS, buildS, fillS, extS, ifS, capsS, boundS, strLen, minS, maxS, pickS, plainS, oneS, onesS, cellsS, ev, evs, getS, ofVal, takeN, takeAt, layN, nthS, setN, snoc, lenN, unw, memN, trimS, TE.sv, argS, cxOf, lays, ↓reduceIte, reduceCtorEq, Value.oneCell', Nat.reduceEqDiff, Nat.reduceAdd, Nat.reduceLT, Nat.reduceBEq, Nat.reduceSub, Nat.reduceLeDiff, e00, e01, e02, e03, e04, e05, e06, e07, e08, e09, e10, e11, e12, e13, e14, e15, e16, e17, e18, e19, e20, e21, e22, e23, e24, e25, e26, e27, e28, e29, e30, e31, e32, e33, e34, cE, cOE, hcs, hap, killE, deadOf, rwE, cD, cO, consD, gdS, eqB, newC, mkV, storeC, firstN, snocAll, appAll, dropN, repN, putSl, slAt, allL, lvC, softC, ckD, ckO, hcallC, wfC, wfL, wfE, wfV, hP, hk, res7, kp7, quC, itM, g0, g1])
    exact fin _
  have g1 : decide (1099511627776 < now) = false := decide_eq_false n1
  by_cases n2 : x.exp < 0
  · have g2 : decide (x.exp < 0) = true := decide_eq_true n2
    (refine VT_ok hctr (rs := res7) true 300 _ _ _ ?_; simp (config := { maxSteps := 1000000 }) only [VT, f00, f01, opG_t, opG_f, putG_t, putG_f, VC, appL, repZ, mkFs, newSl, resS, teS, resV, opK, putK, storeK, softS, eqC, eqCs, callS, moveS, loadS, nilS, binV, binS, unS, convS, faS, fldS, iaS, ixS, slS, lenS, buildS, fillS, extS, ifS, capsS, boundS, strLen, minS, maxS, pickS, plainS, oneS, onesS, cellsS, ev, evs, getS, ofVal, takeN, takeAt, layN, nthS, setN, snoc, lenN, unw, memN, trimS, TE.sv, argS, cxOf, lays, ↓reduceIte, reduceCtorEq, Value.oneCell', Nat.reduceEqDiff, Nat.reduceAdd, Nat.reduceLT, Nat.reduceBEq, Nat.reduceSub, Nat.reduceLeDiff, e00, e01, e02, e03, e04, e05, e06, e07, e08, e09, e10, e11, e12, e13, e14, e15, e16, e17, e18, e19, e20, e21, e22, e23, e24, e25, e26, e27, e28, e29, e30, e31, e32, e33, e34, cE, cOE, hcs, hap, killE, deadOf, rwE, cD, cO, consD, gdS, eqB, newC, mkV, storeC, firstN, snocAll, appAll, dropN, repN, putSl, slAt, allL, lvC, softC, ckD, ckO, hcallC, wfC, wfL, wfE, wfV, hP, hk, res7, kp7, quC, itM, g0, g1, g2])
    exact fin _
  have g2 : decide (x.exp < 0) = false := decide_eq_false n2
  by_cases n3 : 2199023255552 < x.exp
  · have g3 : decide (2199023255552 < x.exp) = true := decide_eq_true n3
    (refine VT_ok hctr (rs := res7) true 300 _ _ _ ?_; simp (config := { maxSteps := 1000000 }) only [VT, f00, f01, opG_t, opG_f, putG_t, putG_f, VC, appL, repZ, mkFs, newSl, resS, teS, resV, opK, putK, storeK, softS, eqC, eqCs, callS, moveS, loadS, nilS, binV, binS, unS, convS, faS, fldS, iaS, ixS, slS, lenS, buildS, fillS, extS, ifS, capsS, boundS, strLen, minS, maxS, pickS, plainS, oneS, onesS, cellsS, ev, evs, getS, ofVal, takeN, takeAt, layN, nthS, setN, snoc, lenN, unw, memN, trimS, TE.sv, argS, cxOf, lays, ↓reduceIte, reduceCtorEq, Value.oneCell', Nat.reduceEqDiff, Nat.reduceAdd, Nat.reduceLT, Nat.reduceBEq, Nat.reduceSub, Nat.reduceLeDiff, e00, e01, e02, e03, e04, e05, e06, e07, e08, e09, e10, e11, e12, e13, e14, e15, e16, e17, e18, e19, e20, e21, e22, e23, e24, e25, e26, e27, e28, e29, e30, e31, e32, e33, e34, cE, cOE, hcs, hap, killE, deadOf, rwE, cD, cO, consD, gdS, eqB, newC, mkV, storeC, firstN, snocAll, appAll, dropN, repN, putSl, slAt, allL, lvC, softC, ckD, ckO, hcallC, wfC, wfL, wfE, wfV, hP, hk, res7, kp7, quC, itM, g0, g1, g2, g3])
    exact fin _
  have g3 : decide (2199023255552 < x.exp) = false := decide_eq_false n3
  have r0 : ∀ (k : Int) (nm : List UInt8) (st num : Int) (W Xx Z : Bool), RpOk ⟨k, [], true, [], 0, false, nm, [[113]], [107]⟩ ⟨st, ⟨[], 0, [], 0, 0, 0, false, false⟩, num, W, Xx, Z⟩ now := fun k nm st num W Xx Z => rpQ (by simp) (by simp) (by simp) (by simp) (by simp) (by omega) (by omega) (by simp) (by simp)
  have r1 : ∀ (k : Int) (nm : List UInt8) (st num : Int) (W Xx Z : Bool), RpOk ⟨k, [], true, [], 0, false, nm, [[113]], [107]⟩ ⟨st, ⟨x.key, x.flags, x.val, x.exp, x.cas, x.last, x.stale, x.won⟩, num, W, Xx, Z⟩ now := fun k nm st num W Xx Z => rpQ h1 c0 c1 f0 f1 (by omega) (by omega) (by simp only; omega) (by simp only; omega)
  (refine VT_ok hctr (rs := res7) true 300 _ _ _ ?_; simp (config := { maxSteps := 1000000 }) only [VT, f00, f01, opG_t, opG_f, putG_t, putG_f, VC, appL, repZ, mkFs, newSl, resS, teS, resV, opK, putK, storeK, softS, eqC, eqCs, callS, moveS, loadS, nilS, binV, binS, unS, convS, faS, fldS, iaS, ixS, slS, lenS, buildS, fillS, extS, ifS, capsS, boundS, strLen, minS, maxS, pickS, plainS, oneS, onesS, cellsS, ev, evs, getS, ofVal, takeN, takeAt, layN, nthS, setN, snoc, lenN, unw, memN, trimS, TE.sv, argS, cxOf, lays, ↓reduceIte, reduceCtorEq, Value.oneCell', Nat.reduceEqDiff, Nat.reduceAdd, Nat.reduceLT, Nat.reduceBEq, Nat.reduceSub, Nat.reduceLeDiff, e00, e01, e02, e03, e04, e05, e06, e07, e08, e09, e10, e11, e12, e13, e14, e15, e16, e17, e18, e19, e20, e21, e22, e23, e24, e25, e26, e27, e28, e29, e30, e31, e32, e33, e34, cE, cOE, hcs, hap, killE, deadOf, rwE, cD, cO, consD, gdS, eqB, newC, mkV, storeC, firstN, snocAll, appAll, dropN, repN, putSl, slAt, allL, lvC, softC, ckD, ckO, hcallC, wfC, wfL, wfE, wfV, hP, hk, res7, kp7, quC, itM, g0, g1, g2, g3])
  refine Run_mparse _ (show mParse mq_lg = _ from mq_g) (by decide) hP hE (by rw [hn0]; exact Nat.zero_le _) rfl (by simp) ?_
  (refine VT_ok hctr (rs := res7) true 300 _ _ _ ?_; simp (config := { maxSteps := 1000000 }) only [VT, f00, f01, opG_t, opG_f, putG_t, putG_f, VC, appL, repZ, mkFs, newSl, resS, teS, resV, opK, putK, storeK, softS, eqC, eqCs, callS, moveS, loadS, nilS, binV, binS, unS, convS, faS, fldS, iaS, ixS, slS, lenS, buildS, fillS, extS, ifS, capsS, boundS, strLen, minS, maxS, pickS, plainS, oneS, onesS, cellsS, ev, evs, getS, ofVal, takeN, takeAt, layN, nthS, setN, snoc, lenN, unw, memN, trimS, TE.sv, argS, cxOf, lays, ↓reduceIte, reduceCtorEq, Value.oneCell', Nat.reduceEqDiff, Nat.reduceAdd, Nat.reduceLT, Nat.reduceBEq, Nat.reduceSub, Nat.reduceLeDiff, e00, e01, e02, e03, e04, e05, e06, e07, e08, e09, e10, e11, e12, e13, e14, e15, e16, e17, e18, e19, e20, e21, e22, e23, e24, e25, e26, e27, e28, e29, e30, e31, e32, e33, e34, cE, cOE, hcs, hap, killE, deadOf, rwE, cD, cO, consD, gdS, eqB, newC, mkV, storeC, firstN, snocAll, appAll, dropN, repN, putSl, slAt, allL, lvC, softC, ckD, ckO, hcallC, wfC, wfL, wfE, wfV, hP, hk, res7, kp7, quC, shM, itM, pmV, mqZ, mqS, mqR, cmE, flE, rwE, flatG, ecS, Cd.zero, List.length_cons, List.length_nil, List.flatMap_cons, List.flatMap_nil, List.append_nil, List.map_cons, List.map_nil, Nat.zero_add])
  refine Run_mparse _ (show mParse mq_ls = _ from mq_s) (by decide) hP hE (by rw [hn0]; exact Nat.zero_le _) rfl (by simp) ?_
  (refine VT_ok hctr (rs := res7) true 300 _ _ _ ?_; simp (config := { maxSteps := 1000000 }) only [VT, f00, f01, opG_t, opG_f, putG_t, putG_f, VC, appL, repZ, mkFs, newSl, resS, teS, resV, opK, putK, storeK, softS, eqC, eqCs, callS, moveS, loadS, nilS, binV, binS, unS, convS, faS, fldS, iaS, ixS, slS, lenS, buildS, fillS, extS, ifS, capsS, boundS, strLen, minS, maxS, pickS, plainS, oneS, onesS, cellsS, ev, evs, getS, ofVal, takeN, takeAt, layN, nthS, setN, snoc, lenN, unw, memN, trimS, TE.sv, argS, cxOf, lays, ↓reduceIte, reduceCtorEq, Value.oneCell', Nat.reduceEqDiff, Nat.reduceAdd, Nat.reduceLT, Nat.reduceBEq, Nat.reduceSub, Nat.reduceLeDiff, e00, e01, e02, e03, e04, e05, e06, e07, e08, e09, e10, e11, e12, e13, e14, e15, e16, e17, e18, e19, e20, e21, e22, e23, e24, e25, e26, e27, e28, e29, e30, e31, e32, e33, e34, cE, cOE, hcs, hap, killE, deadOf, rwE, cD, cO, consD, gdS, eqB, newC, mkV, storeC, firstN, snocAll, appAll, dropN, repN, putSl, slAt, allL, lvC, softC, ckD, ckO, hcallC, wfC, wfL, wfE, wfV, hP, hk, res7, kp7, quC, shM, itM, pmV, mqZ, mqS, mqR, cmE, flE, rwE, flatG, ecS, Cd.zero, List.length_cons, List.length_nil, List.flatMap_cons, List.flatMap_nil, List.append_nil, List.map_cons, List.map_nil, Nat.zero_add])
  refine Run_mparse _ (show mParse mq_ld = _ from mq_d) (by decide) hP hE (by rw [hn0]; exact Nat.zero_le _) rfl (by simp) ?_
  (refine VT_ok hctr (rs := res7) true 300 _ _ _ ?_; simp (config := { maxSteps := 1000000 }) only [VT, f00, f01, opG_t, opG_f, putG_t, putG_f, VC, appL, repZ, mkFs, newSl, resS, teS, resV, opK, putK, storeK, softS, eqC, eqCs, callS, moveS, loadS, nilS, binV, binS, unS, convS, faS, fldS, iaS, ixS, slS, lenS, buildS, fillS, extS, ifS, capsS, boundS, strLen, minS, maxS, pickS, plainS, oneS, onesS, cellsS, ev, evs, getS, ofVal, takeN, takeAt, layN, nthS, setN, snoc, lenN, unw, memN, trimS, TE.sv, argS, cxOf, lays, ↓reduceIte, reduceCtorEq, Value.oneCell', Nat.reduceEqDiff, Nat.reduceAdd, Nat.reduceLT, Nat.reduceBEq, Nat.reduceSub, Nat.reduceLeDiff, e00, e01, e02, e03, e04, e05, e06, e07, e08, e09, e10, e11, e12, e13, e14, e15, e16, e17, e18, e19, e20, e21, e22, e23, e24, e25, e26, e27, e28, e29, e30, e31, e32, e33, e34, cE, cOE, hcs, hap, killE, deadOf, rwE, cD, cO, consD, gdS, eqB, newC, mkV, storeC, firstN, snocAll, appAll, dropN, repN, putSl, slAt, allL, lvC, softC, ckD, ckO, hcallC, wfC, wfL, wfE, wfV, hP, hk, res7, kp7, quC, shM, itM, pmV, mqZ, mqS, mqR, cmE, flE, rwE, flatG, ecS, Cd.zero, List.length_cons, List.length_nil, List.flatMap_cons, List.flatMap_nil, List.append_nil, List.map_cons, List.map_nil, Nat.zero_add])
  refine Run_mparse _ (show mParse mq_lc = _ from mq_c) (by decide) hP hE (by rw [hn0]; exact Nat.zero_le _) rfl (by simp) ?_
  (refine VT_ok hctr (rs := res7) true 400 _ _ _ ?_; simp (config := { maxSteps := 1000000 }) only [VT, f00, f01, opG_t, opG_f, putG_t, putG_f, VC, appL, repZ, mkFs, newSl, resS, teS, resV, opK, putK, storeK, softS, eqC, eqCs, callS, moveS, loadS, nilS, binV, binS, unS, convS, faS, fldS, iaS, ixS, slS, lenS, buildS, fillS, extS, ifS, capsS, boundS, strLen, minS, maxS, pickS, plainS, oneS, onesS, cellsS, ev, evs, getS, ofVal, takeN, takeAt, layN, nthS, setN, snoc, lenN, unw, memN, trimS, TE.sv, argS, cxOf, lays, ↓reduceIte, reduceCtorEq, Value.oneCell', Nat.reduceEqDiff, Nat.reduceAdd, Nat.reduceLT, Nat.reduceBEq, Nat.reduceSub, Nat.reduceLeDiff, e00, e01, e02, e03, e04, e05, e06, e07, e08, e09, e10, e11, e12, e13, e14, e15, e16, e17, e18, e19, e20, e21, e22, e23, e24, e25, e26, e27, e28, e29, e30, e31, e32, e33, e34, cE, cOE, hcs, hap, killE, deadOf, rwE, cD, cO, consD, gdS, eqB, newC, mkV, storeC, firstN, snocAll, appAll, dropN, repN, putSl, slAt, allL, lvC, softC, ckD, ckO, hcallC, wfC, wfL, wfE, wfV, hP, hk, res7, kp7, quC, shM, itM, pmV, mqZ, mqS, mqR, cmE, flE, rwE, flatG, ecS, Cd.zero, List.length_cons, List.length_nil, List.flatMap_cons, List.flatMap_nil, List.append_nil, List.map_cons, List.map_nil, Nat.zero_add, m_mg, m_ms, m_md, m_ma, rowRpl, strsOf, r0, r1, qw1, qw2, qw3, qw4, qw5, qw6, qw7, qw8, qw9, qw10, qw11, qw12, beq_self_eq_true, List.append_eq, List.cons_append, List.nil_append, lb1, lb2, lb3, lb4, u8b, UInt8.reduceToNat])
  exact fin _
end Go.Proofs.YtlaagebdbcmckaaGreatDoor
