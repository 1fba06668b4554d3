/- TextLong, walked. -/
import Derived.Test.YtlbbldcfkalhlaaGreatDoorCTnumW
import Derived.Test.YtlbbldcfkalhlaaGreatDoorBC
import Derived.Test.YtlbbldcfkalhlaaGreatDoorBB
namespace Go.Proofs.YtlbbldcfkalhlaaGreatDoor
set_option linter.unusedSimpArgs false
set_option linter.unusedVariables false
set_option linter.unusedSimpArgs false
set_option linter.unusedVariables false
set_option maxHeartbeats 8000000
open Go.RowKit
set_option maxRecDepth 100000

/-- so many letters, then noughts -/
def lgC (n j : Nat) : List SC := List.replicate j (SC.i .u8 120) ++ List.replicate (n - j) (SC.i .u8 0)
theorem lg_lay {n j : Nat} (h : j < n) : layN j [SC.i .u8 120] (lgC n j) = some (lgC n (j + 1)) := by
  have e : lgC n (j + 1) = (lgC n j).set j (.i .u8 120) := by
    unfold lgC
    rw [show n - j = (n - (j + 1)) + 1 by omega, List.replicate_succ' (n := j), List.replicate_succ (n := n - (j + 1)), List.set_append_right _ _ (by simp), List.length_replicate, Nat.sub_self, List.set_cons_zero, List.append_assoc]
    rfl
  rw [e]
  exact layN_one (by simp [lgC]; omega)
theorem infoU8 : (Tryz.prog.info? 5).map (fun i => (i.zero, i.size, i.bytes)) = some (some (.int .u8 0), 1, 1) := by kernel_rfl
def lgE (n j : Nat) : List EN := [⟨(5, 0, whole), lgC n j, true⟩]
def lgS (n j : Nat) (e : Bool) : List (Nat × SV) := [(7, .c (.i .i64 (j : Int))), (6, .c (.sl 0 0 n n)), (5, .c (.b true)), (4, .c (.b false)), (0, .c (.i .i64 (n : Int))), (1, .c (.b e))]
theorem lg_take (n : Nat) : takeAt 0 n (lgC n n) = some ((xs n).map fun b => SC.i .u8 (b.toNat : Int)) := by
  rw [takeAt_of (by simp [lgC])]
  simp [lgC, xs, List.take_of_length_le]
theorem long_a : True := trivial
theorem long_pt {name : Int} {v : Nat} (c0 : ¬ name < 0) (hm : name.tmod 2100 = (v : Int)) (hv : v < 2100) (cn : -9223372036854775808 ≤ name) (cm : name ≤ 9223372036854775807) (w : World) (hE0 : EnvT w) :
    Calls Tryz.prog 4 #[.int .i64 name, .bool true] w fun e w' => e = .returned (.bool true) ∧ Below w.heap.size w w' := by
  refine calls_of_Run Tryz.func4 rfl kp4 (S := Non) (ρ := fun _ => reOf 0) (en := []) [.c (.i .i64 name), .c (.b true)] Tryz.ntmps4 (At.nil _ _ _) (by simp [SV.wf, SC.wf]) (by simp) ?_
  intro C hC hP hk
  have hE : ∀ w', Upd C.S C.w0 w' → EnvT w' := fun w' hu => by rw [hC] at hu; exact hE0.below hu.to_below
  have hctr := lwC_ok hP hE
  have hn0 : C.n0 = 0 := by rw [hC]; rfl
  have fin : ∀ en, Fin C res4 (.c (.b true)) en := fun en => Fin_ro (v := .c (.b true)) hC hres4 rfl trivial
  have c0' : decide (name < 0) = false := decide_eq_false c0
  obtain ⟨n, hn⟩ : ∃ n, v + 1 = n := ⟨_, rfl⟩
  have w2 : IntKind.i64.wrap (1 + (v : Int)) = (n : Int) := by rw [IntKind.wrap_i64]; omega
  have w1 : IntKind.i64.wrap (v : Int) = (v : Int) := by rw [IntKind.wrap_i64]; omega
  (refine VT_ok hctr (rs := res4) true 300 _ _ _ ?_; simp (config := { maxSteps := 1000000 }) only [VT, f00, f01, opG_t, opG_f, putG_t, putG_f, VC, appL, repZ, mkFs, newSl, resS, teS, resV, opK, putK, storeK, softS, eqC, eqCs, callS, moveS, loadS, nilS, binV, binS, unS, convS, faS, fldS, iaS, ixS, slS, lenS, buildS, fillS, extS, ifS, capsS, boundS, strLen, minS, maxS, pickS, plainS, oneS, onesS, cellsS, ev, evs, getS, ofVal, takeN, takeAt, layN, nthS, setN, snoc, lenN, unw, memN, trimS, TE.sv, argS, cxOf, lays, ↓reduceIte, reduceCtorEq, Value.oneCell', Nat.reduceEqDiff, Nat.reduceAdd, Nat.reduceLT, Nat.reduceBEq, Nat.reduceSub, Nat.reduceLeDiff, e00, e01, e02, e03, e04, e05, e06, e07, e08, e09, e10, e11, e12, e13, e14, e15, e16, e17, e18, e19, e20, e21, e22, e23, e24, e25, e26, e27, e28, e29, e30, e31, e32, e33, e34, cE, cOE, hcs, hap, killE, deadOf, rwE, cD, cO, consD, gdS, eqB, newC, mkV, storeC, firstN, snocAll, appAll, dropN, repN, putSl, slAt, allL, lvC, softC, ckD, ckO, hcallC, wfC, wfL, wfE, wfV, hP, hk, res4, kp4, lwC, c0', hm, w1, w2])
  refine ⟨by decide, ?_⟩
  obtain ⟨i0, hi', hz0, hz1, hz2⟩ := info_parts infoU8
  refine make_op (t := 31) (e := 5) (n := n) (bts := 1) (z := .i .u8 0) (by rw [hP]; exact Tryz.underlying31) (by rw [hP]; exact hi') hz0 hz1 hz2 rfl (fun _ => rfl) (fun _ => trivial) (by show ¬ (5 : Nat) = DEAD; decide) rfl rfl (by omega) (by omega) rfl (by simp) ?_
  (refine VT_ok hctr (rs := res4) true 300 _ _ _ ?_; simp (config := { maxSteps := 1000000 }) only [VT, f00, f01, opG_t, opG_f, putG_t, putG_f, VC, appL, repZ, mkFs, newSl, resS, teS, resV, opK, putK, storeK, softS, eqC, eqCs, callS, moveS, loadS, nilS, binV, binS, unS, convS, faS, fldS, iaS, ixS, slS, lenS, buildS, fillS, extS, ifS, capsS, boundS, strLen, minS, maxS, pickS, plainS, oneS, onesS, cellsS, ev, evs, getS, ofVal, takeN, takeAt, layN, nthS, setN, snoc, lenN, unw, memN, trimS, TE.sv, argS, cxOf, lays, ↓reduceIte, reduceCtorEq, Value.oneCell', Nat.reduceEqDiff, Nat.reduceAdd, Nat.reduceLT, Nat.reduceBEq, Nat.reduceSub, Nat.reduceLeDiff, e00, e01, e02, e03, e04, e05, e06, e07, e08, e09, e10, e11, e12, e13, e14, e15, e16, e17, e18, e19, e20, e21, e22, e23, e24, e25, e26, e27, e28, e29, e30, e31, e32, e33, e34, cE, cOE, hcs, hap, killE, deadOf, rwE, cD, cO, consD, gdS, eqB, newC, mkV, storeC, firstN, snocAll, appAll, dropN, repN, putSl, slAt, allL, lvC, softC, ckD, ckO, hcallC, wfC, wfL, wfE, wfV, hP, hk, res4, kp4, lwC, c0', hm, w1, w2])
  refine Run_loopP (ι := { j : Nat // j ≤ n }) (fun j => lgS n j.1 true) (fun j => lgE n j.1) (fun j => n - j.1) ⟨0, Nat.zero_le _⟩ (sub_mk ⟨rfl, rfl, rfl, rfl, rfl, rfl, trivial⟩) rfl ?_
  rintro ⟨j, hj⟩ D dP dS dw dn dr dk ddf dPan dRet hX hJ
  have hP0 := hP; have hk0 := hk; have hctr0 := hctr
  have hP : D.P = Tryz.prog := by rw [dP]; exact hP0
  have hk : D.kp = kp4 := by rw [dk]; exact hk0
  have hctr : CtrOk D lwC := lwC_ok hP (by rw [dS, dw]; exact hE)
  show Run D _ _ (lgS n j true) (lgE n j)
  by_cases hjn : j < n
  · have c1 : decide ((j : Int) < (n : Int)) = true := decide_eq_true (by omega)
    have p3 : IntKind.i64.wrap ((j : Int) + 1) = ((j + 1 : Nat) : Int) := by rw [IntWalk.i64_in _ (by omega)]; rfl
    have p0 : (0 : Int) ≤ (j : Int) := by omega
    have p1 : (j : Int) < ((n : Nat) : Int) := by omega
    have hly := lg_lay hjn
    (refine VT_ok hctr (rs := res4) true 300 _ _ _ ?_; simp (config := { maxSteps := 1000000 }) only [VT, f00, f01, opG_t, opG_f, putG_t, putG_f, VC, appL, repZ, mkFs, newSl, resS, teS, resV, opK, putK, storeK, softS, eqC, eqCs, callS, moveS, loadS, nilS, binV, binS, unS, convS, faS, fldS, iaS, ixS, slS, lenS, buildS, fillS, extS, ifS, capsS, boundS, strLen, minS, maxS, pickS, plainS, oneS, onesS, cellsS, ev, evs, getS, ofVal, takeN, takeAt, layN, nthS, setN, snoc, lenN, unw, memN, trimS, TE.sv, argS, cxOf, lays, ↓reduceIte, reduceCtorEq, Value.oneCell', Nat.reduceEqDiff, Nat.reduceAdd, Nat.reduceLT, Nat.reduceBEq, Nat.reduceSub, Nat.reduceLeDiff, e00, e01, e02, e03, e04, e05, e06, e07, e08, e09, e10, e11, e12, e13, e14, e15, e16, e17, e18, e19, e20, e21, e22, e23, e24, e25, e26, e27, e28, e29, e30, e31, e32, e33, e34, cE, cOE, hcs, hap, killE, deadOf, rwE, cD, cO, consD, gdS, eqB, newC, mkV, storeC, firstN, snocAll, appAll, dropN, repN, putSl, slAt, allL, lvC, softC, ckD, ckO, hcallC, wfC, wfL, wfE, wfV, hP, hk, res4, kp4, lgS, lgE, lwC, c1, p3, p0, p1, hly, Int.toNat_natCast, Nat.mul_one, Nat.zero_add])
    exact hJ ⟨j + 1, by omega⟩ _ (by show n - (j + 1) < n - j; omega) (sub_mk ⟨rfl, rfl, rfl, rfl, rfl, rfl, trivial⟩)
  · obtain rfl : j = n := by omega
    have c1 : decide ((j : Int) < (j : Int)) = false := decide_eq_false (by omega)
    (refine VT_ok hctr (rs := res4) true 300 _ _ _ ?_; simp (config := { maxSteps := 1000000 }) only [VT, f00, f01, opG_t, opG_f, putG_t, putG_f, VC, appL, repZ, mkFs, newSl, resS, teS, resV, opK, putK, storeK, softS, eqC, eqCs, callS, moveS, loadS, nilS, binV, binS, unS, convS, faS, fldS, iaS, ixS, slS, lenS, buildS, fillS, extS, ifS, capsS, boundS, strLen, minS, maxS, pickS, plainS, oneS, onesS, cellsS, ev, evs, getS, ofVal, takeN, takeAt, layN, nthS, setN, snoc, lenN, unw, memN, trimS, TE.sv, argS, cxOf, lays, ↓reduceIte, reduceCtorEq, Value.oneCell', Nat.reduceEqDiff, Nat.reduceAdd, Nat.reduceLT, Nat.reduceBEq, Nat.reduceSub, Nat.reduceLeDiff, e00, e01, e02, e03, e04, e05, e06, e07, e08, e09, e10, e11, e12, e13, e14, e15, e16, e17, e18, e19, e20, e21, e22, e23, e24, e25, e26, e27, e28, e29, e30, e31, e32, e33, e34, cE, cOE, hcs, hap, killE, deadOf, rwE, cD, cO, consD, gdS, eqB, newC, mkV, storeC, firstN, snocAll, appAll, dropN, repN, putSl, slAt, allL, lvC, softC, ckD, ckO, hcallC, wfC, wfL, wfE, wfV, hP, hk, res4, kp4, lgS, lgE, lwC, c1])
    refine hX rfl rfl ?_
    have hP := hP0; have hk := hk0; have hctr := hctr0
    (refine VT_ok hctr (rs := res4) true 300 _ _ _ ?_; simp (config := { maxSteps := 1000000 }) only [VT, f00, f01, opG_t, opG_f, putG_t, putG_f, VC, appL, repZ, mkFs, newSl, resS, teS, resV, opK, putK, storeK, softS, eqC, eqCs, callS, moveS, loadS, nilS, binV, binS, unS, convS, faS, fldS, iaS, ixS, slS, lenS, buildS, fillS, extS, ifS, capsS, boundS, strLen, minS, maxS, pickS, plainS, oneS, onesS, cellsS, ev, evs, getS, ofVal, takeN, takeAt, layN, nthS, setN, snoc, lenN, unw, memN, trimS, TE.sv, argS, cxOf, lays, ↓reduceIte, reduceCtorEq, Value.oneCell', Nat.reduceEqDiff, Nat.reduceAdd, Nat.reduceLT, Nat.reduceBEq, Nat.reduceSub, Nat.reduceLeDiff, e00, e01, e02, e03, e04, e05, e06, e07, e08, e09, e10, e11, e12, e13, e14, e15, e16, e17, e18, e19, e20, e21, e22, e23, e24, e25, e26, e27, e28, e29, e30, e31, e32, e33, e34, cE, cOE, hcs, hap, killE, deadOf, rwE, cD, cO, consD, gdS, eqB, newC, mkV, storeC, firstN, snocAll, appAll, dropN, repN, putSl, slAt, allL, lvC, softC, ckD, ckO, hcallC, wfC, wfL, wfE, wfV, hP, hk, res4, kp4, lwC, c0', hm, w1, w2])
    have hbs : SrcOk C (lgE j j) (.sl 0 0 j j) (xs j).length ((xs j).map fun b => SC.i .u8 (b.toNat : Int)) := by
      rw [xs_len]
      exact src_sl (L := j) rfl (lg_take j)
    refine bytes_op (bs := xs j) (s := 31) (e := 5) (X := .sl 0 0 j j) (by rw [hP]; exact Tryz.underlying31) (by rw [hP]; exact Tryz.underlying9) (by rw [hP]; exact Tryz.underlying5) rfl hbs rfl (by simp) ?_
    have hxl : (xs j).length = j := xs_len j
    have hw1 : IntKind.i64.wrap ((j : Int) + 1) = (j : Int) + 1 := by rw [IntWalk.i64_in _ (by omega)]
    have hw2 : ((j : Int) + 1 == (j : Int) + 1) = true := by simp
    (refine VT_ok hctr (rs := res4) true 300 _ _ _ ?_; simp (config := { maxSteps := 1000000 }) only [VT, f00, f01, opG_t, opG_f, putG_t, putG_f, VC, appL, repZ, mkFs, newSl, resS, teS, resV, opK, putK, storeK, softS, eqC, eqCs, callS, moveS, loadS, nilS, binV, binS, unS, convS, faS, fldS, iaS, ixS, slS, lenS, buildS, fillS, extS, ifS, capsS, boundS, strLen, minS, maxS, pickS, plainS, oneS, onesS, cellsS, ev, evs, getS, ofVal, takeN, takeAt, layN, nthS, setN, snoc, lenN, unw, memN, trimS, TE.sv, argS, cxOf, lays, ↓reduceIte, reduceCtorEq, Value.oneCell', Nat.reduceEqDiff, Nat.reduceAdd, Nat.reduceLT, Nat.reduceBEq, Nat.reduceSub, Nat.reduceLeDiff, e00, e01, e02, e03, e04, e05, e06, e07, e08, e09, e10, e11, e12, e13, e14, e15, e16, e17, e18, e19, e20, e21, e22, e23, e24, e25, e26, e27, e28, e29, e30, e31, e32, e33, e34, cE, cOE, hcs, hap, killE, deadOf, rwE, cD, cO, consD, gdS, eqB, newC, mkV, storeC, firstN, snocAll, appAll, dropN, repN, putSl, slAt, allL, lvC, softC, ckD, ckO, hcallC, wfC, wfL, wfE, wfV, hP, hk, res4, kp4, lwC, c0', hm, w1, w2])
    refine ⟨by omega, ?_⟩
    by_cases h2 : j + 1 ≤ 2048
    · have g1 : decide ((j : Int) + 1 ≤ 2048) = true := decide_eq_true (by omega)
      have hps := long_end (n := j) (by omega) h2
      rw [show (((j + 1 : Nat) : Nat) : Int) = (j : Int) + 1 from rfl] at hps
      refine Run_parse _ hps (by simp [xs_len]; omega) hP hE (by rw [hn0]; exact Nat.zero_le _) (by rfl) (by simp) ?_
      (refine VT_ok hctr (rs := res4) true 300 _ _ _ ?_; simp (config := { maxSteps := 1000000 }) only [VT, f00, f01, opG_t, opG_f, putG_t, putG_f, VC, appL, repZ, mkFs, newSl, resS, teS, resV, opK, putK, storeK, softS, eqC, eqCs, callS, moveS, loadS, nilS, binV, binS, unS, convS, faS, fldS, iaS, ixS, slS, lenS, buildS, fillS, extS, ifS, capsS, boundS, strLen, minS, maxS, pickS, plainS, oneS, onesS, cellsS, ev, evs, getS, ofVal, takeN, takeAt, layN, nthS, setN, snoc, lenN, unw, memN, trimS, TE.sv, argS, cxOf, lays, ↓reduceIte, reduceCtorEq, Value.oneCell', Nat.reduceEqDiff, Nat.reduceAdd, Nat.reduceLT, Nat.reduceBEq, Nat.reduceSub, Nat.reduceLeDiff, e00, e01, e02, e03, e04, e05, e06, e07, e08, e09, e10, e11, e12, e13, e14, e15, e16, e17, e18, e19, e20, e21, e22, e23, e24, e25, e26, e27, e28, e29, e30, e31, e32, e33, e34, cE, cOE, hcs, hap, killE, deadOf, rwE, cD, cO, consD, gdS, eqB, newC, mkV, storeC, firstN, snocAll, appAll, dropN, repN, putSl, slAt, allL, lvC, softC, ckD, ckO, hcallC, wfC, wfL, wfE, wfV, hP, hk, res4, kp4, lwC, psV, psE, rqS, badR, f_unknown, b_long, Rq.zero, hxl, hw1, hw2, beq_self_eq_true, g1])
      exact fin _
    · have g1 : decide ((j : Int) + 1 ≤ 2048) = false := decide_eq_false (by omega)
      have g2 : decide (2048 ≤ (j : Int)) = true := decide_eq_true (by omega)
      refine Run_parse _ (long_over (n := j) (by omega) [10]) (by simp [xs_len]; omega) hP hE (by rw [hn0]; exact Nat.zero_le _) (by rfl) (by simp) ?_
      (refine VT_ok hctr (rs := res4) true 300 _ _ _ ?_; simp (config := { maxSteps := 1000000 }) only [VT, f00, f01, opG_t, opG_f, putG_t, putG_f, VC, appL, repZ, mkFs, newSl, resS, teS, resV, opK, putK, storeK, softS, eqC, eqCs, callS, moveS, loadS, nilS, binV, binS, unS, convS, faS, fldS, iaS, ixS, slS, lenS, buildS, fillS, extS, ifS, capsS, boundS, strLen, minS, maxS, pickS, plainS, oneS, onesS, cellsS, ev, evs, getS, ofVal, takeN, takeAt, layN, nthS, setN, snoc, lenN, unw, memN, trimS, TE.sv, argS, cxOf, lays, ↓reduceIte, reduceCtorEq, Value.oneCell', Nat.reduceEqDiff, Nat.reduceAdd, Nat.reduceLT, Nat.reduceBEq, Nat.reduceSub, Nat.reduceLeDiff, e00, e01, e02, e03, e04, e05, e06, e07, e08, e09, e10, e11, e12, e13, e14, e15, e16, e17, e18, e19, e20, e21, e22, e23, e24, e25, e26, e27, e28, e29, e30, e31, e32, e33, e34, cE, cOE, hcs, hap, killE, deadOf, rwE, cD, cO, consD, gdS, eqB, newC, mkV, storeC, firstN, snocAll, appAll, dropN, repN, putSl, slAt, allL, lvC, softC, ckD, ckO, hcallC, wfC, wfL, wfE, wfV, hP, hk, res4, kp4, lwC, psV, psE, rqS, badR, f_unknown, b_long, Rq.zero, hxl, hw1, hw2, beq_self_eq_true, g1, g2])
      exact fin _
theorem long_pf {name : Int} {v : Nat} (c0 : ¬ name < 0) (hm : name.tmod 2100 = (v : Int)) (hv : v < 2100) (cn : -9223372036854775808 ≤ name) (cm : name ≤ 9223372036854775807) (w : World) (hE0 : EnvT w) :
    Calls Tryz.prog 4 #[.int .i64 name, .bool false] w fun e w' => e = .returned (.bool true) ∧ Below w.heap.size w w' := by
  refine calls_of_Run Tryz.func4 rfl kp4 (S := Non) (ρ := fun _ => reOf 0) (en := []) [.c (.i .i64 name), .c (.b false)] Tryz.ntmps4 (At.nil _ _ _) (by simp [SV.wf, SC.wf]) (by simp) ?_
  intro C hC hP hk
  have hE : ∀ w', Upd C.S C.w0 w' → EnvT w' := fun w' hu => by rw [hC] at hu; exact hE0.below hu.to_below
  have hctr := lwC_ok hP hE
  have hn0 : C.n0 = 0 := by rw [hC]; rfl
  have fin : ∀ en, Fin C res4 (.c (.b true)) en := fun en => Fin_ro (v := .c (.b true)) hC hres4 rfl trivial
  have c0' : decide (name < 0) = false := decide_eq_false c0
  obtain ⟨n, hn⟩ : ∃ n, v + 1 = n := ⟨_, rfl⟩
  have w2 : IntKind.i64.wrap (1 + (v : Int)) = (n : Int) := by rw [IntKind.wrap_i64]; omega
  have w1 : IntKind.i64.wrap (v : Int) = (v : Int) := by rw [IntKind.wrap_i64]; omega
  (refine VT_ok hctr (rs := res4) true 300 _ _ _ ?_; simp (config := { maxSteps := 1000000 }) only [VT, f00, f01, opG_t, opG_f, putG_t, putG_f, VC, appL, repZ, mkFs, newSl, resS, teS, resV, opK, putK, storeK, softS, eqC, eqCs, callS, moveS, loadS, nilS, binV, binS, unS, convS, faS, fldS, iaS, ixS, slS, lenS, buildS, fillS, extS, ifS, capsS, boundS, strLen, minS, maxS, pickS, plainS, oneS, onesS, cellsS, ev, evs, getS, ofVal, takeN, takeAt, layN, nthS, setN, snoc, lenN, unw, memN, trimS, TE.sv, argS, cxOf, lays, ↓reduceIte, reduceCtorEq, Value.oneCell', Nat.reduceEqDiff, Nat.reduceAdd, Nat.reduceLT, Nat.reduceBEq, Nat.reduceSub, Nat.reduceLeDiff, e00, e01, e02, e03, e04, e05, e06, e07, e08, e09, e10, e11, e12, e13, e14, e15, e16, e17, e18, e19, e20, e21, e22, e23, e24, e25, e26, e27, e28, e29, e30, e31, e32, e33, e34, cE, cOE, hcs, hap, killE, deadOf, rwE, cD, cO, consD, gdS, eqB, newC, mkV, storeC, firstN, snocAll, appAll, dropN, repN, putSl, slAt, allL, lvC, softC, ckD, ckO, hcallC, wfC, wfL, wfE, wfV, hP, hk, res4, kp4, lwC, c0', hm, w1, w2])
  refine ⟨by decide, ?_⟩
  obtain ⟨i0, hi', hz0, hz1, hz2⟩ := info_parts infoU8
  refine make_op (t := 31) (e := 5) (n := n) (bts := 1) (z := .i .u8 0) (by rw [hP]; exact Tryz.underlying31) (by rw [hP]; exact hi') hz0 hz1 hz2 rfl (fun _ => rfl) (fun _ => trivial) (by show ¬ (5 : Nat) = DEAD; decide) rfl rfl (by omega) (by omega) rfl (by simp) ?_
  (refine VT_ok hctr (rs := res4) true 300 _ _ _ ?_; simp (config := { maxSteps := 1000000 }) only [VT, f00, f01, opG_t, opG_f, putG_t, putG_f, VC, appL, repZ, mkFs, newSl, resS, teS, resV, opK, putK, storeK, softS, eqC, eqCs, callS, moveS, loadS, nilS, binV, binS, unS, convS, faS, fldS, iaS, ixS, slS, lenS, buildS, fillS, extS, ifS, capsS, boundS, strLen, minS, maxS, pickS, plainS, oneS, onesS, cellsS, ev, evs, getS, ofVal, takeN, takeAt, layN, nthS, setN, snoc, lenN, unw, memN, trimS, TE.sv, argS, cxOf, lays, ↓reduceIte, reduceCtorEq, Value.oneCell', Nat.reduceEqDiff, Nat.reduceAdd, Nat.reduceLT, Nat.reduceBEq, Nat.reduceSub, Nat.reduceLeDiff, e00, e01, e02, e03, e04, e05, e06, e07, e08, e09, e10, e11, e12, e13, e14, e15, e16, e17, e18, e19, e20, e21, e22, e23, e24, e25, e26, e27, e28, e29, e30, e31, e32, e33, e34, cE, cOE, hcs, hap, killE, deadOf, rwE, cD, cO, consD, gdS, eqB, newC, mkV, storeC, firstN, snocAll, appAll, dropN, repN, putSl, slAt, allL, lvC, softC, ckD, ckO, hcallC, wfC, wfL, wfE, wfV, hP, hk, res4, kp4, lwC, c0', hm, w1, w2])
  refine Run_loopP (ι := { j : Nat // j ≤ n }) (fun j => lgS n j.1 false) (fun j => lgE n j.1) (fun j => n - j.1) ⟨0, Nat.zero_le _⟩ (sub_mk ⟨rfl, rfl, rfl, rfl, rfl, rfl, trivial⟩) rfl ?_
  rintro ⟨j, hj⟩ D dP dS dw dn dr dk ddf dPan dRet hX hJ
  have hP0 := hP; have hk0 := hk; have hctr0 := hctr
  have hP : D.P = Tryz.prog := by rw [dP]; exact hP0
  have hk : D.kp = kp4 := by rw [dk]; exact hk0
  have hctr : CtrOk D lwC := lwC_ok hP (by rw [dS, dw]; exact hE)
  show Run D _ _ (lgS n j false) (lgE n j)
  by_cases hjn : j < n
  · have c1 : decide ((j : Int) < (n : Int)) = true := decide_eq_true (by omega)
    have p3 : IntKind.i64.wrap ((j : Int) + 1) = ((j + 1 : Nat) : Int) := by rw [IntWalk.i64_in _ (by omega)]; rfl
    have p0 : (0 : Int) ≤ (j : Int) := by omega
    have p1 : (j : Int) < ((n : Nat) : Int) := by omega
    have hly := lg_lay hjn
    (refine VT_ok hctr (rs := res4) true 300 _ _ _ ?_; simp (config := { maxSteps := 1000000 }) only [VT, f00, f01, opG_t, opG_f, putG_t, putG_f, VC, appL, repZ, mkFs, newSl, resS, teS, resV, opK, putK, storeK, softS, eqC, eqCs, callS, moveS, loadS, nilS, binV, binS, unS, convS, faS, fldS, iaS, ixS, slS, lenS, buildS, fillS, extS, ifS, capsS, boundS, strLen, minS, maxS, pickS, plainS, oneS, onesS, cellsS, ev, evs, getS, ofVal, takeN, takeAt, layN, nthS, setN, snoc, lenN, unw, memN, trimS, TE.sv, argS, cxOf, lays, ↓reduceIte, reduceCtorEq, Value.oneCell', Nat.reduceEqDiff, Nat.reduceAdd, Nat.reduceLT, Nat.reduceBEq, Nat.reduceSub, Nat.reduceLeDiff, e00, e01, e02, e03, e04, e05, e06, e07, e08, e09, e10, e11, e12, e13, e14, e15, e16, e17, e18, e19, e20, e21, e22, e23, e24, e25, e26, e27, e28, e29, e30, e31, e32, e33, e34, cE, cOE, hcs, hap, killE, deadOf, rwE, cD, cO, consD, gdS, eqB, newC, mkV, storeC, firstN, snocAll, appAll, dropN, repN, putSl, slAt, allL, lvC, softC, ckD, ckO, hcallC, wfC, wfL, wfE, wfV, hP, hk, res4, kp4, lgS, lgE, lwC, c1, p3, p0, p1, hly, Int.toNat_natCast, Nat.mul_one, Nat.zero_add])
    exact hJ ⟨j + 1, by omega⟩ _ (by show n - (j + 1) < n - j; omega) (sub_mk ⟨rfl, rfl, rfl, rfl, rfl, rfl, trivial⟩)
  · obtain rfl : j = n := by omega
    have c1 : decide ((j : Int) < (j : Int)) = false := decide_eq_false (by omega)
    (refine VT_ok hctr (rs := res4) true 300 _ _ _ ?_; simp (config := { maxSteps := 1000000 }) only [VT, f00, f01, opG_t, opG_f, putG_t, putG_f, VC, appL, repZ, mkFs, newSl, resS, teS, resV, opK, putK, storeK, softS, eqC, eqCs, callS, moveS, loadS, nilS, binV, binS, unS, convS, faS, fldS, iaS, ixS, slS, lenS, buildS, fillS, extS, ifS, capsS, boundS, strLen, minS, maxS, pickS, plainS, oneS, onesS, cellsS, ev, evs, getS, ofVal, takeN, takeAt, layN, nthS, setN, snoc, lenN, unw, memN, trimS, TE.sv, argS, cxOf, lays, ↓reduceIte, reduceCtorEq, Value.oneCell', Nat.reduceEqDiff, Nat.reduceAdd, Nat.reduceLT, Nat.reduceBEq, Nat.reduceSub, Nat.reduceLeDiff, e00, e01, e02, e03, e04, e05, e06, e07, e08, e09, e10, e11, e12, e13, e14, e15, e16, e17, e18, e19, e20, e21, e22, e23, e24, e25, e26, e27, e28, e29, e30, e31, e32, e33, e34, cE, cOE, hcs, hap, killE, deadOf, rwE, cD, cO, consD, gdS, eqB, newC, mkV, storeC, firstN, snocAll, appAll, dropN, repN, putSl, slAt, allL, lvC, softC, ckD, ckO, hcallC, wfC, wfL, wfE, wfV, hP, hk, res4, kp4, lgS, lgE, lwC, c1])
    refine hX rfl rfl ?_
    have hP := hP0; have hk := hk0; have hctr := hctr0
    (refine VT_ok hctr (rs := res4) true 300 _ _ _ ?_; simp (config := { maxSteps := 1000000 }) only [VT, f00, f01, opG_t, opG_f, putG_t, putG_f, VC, appL, repZ, mkFs, newSl, resS, teS, resV, opK, putK, storeK, softS, eqC, eqCs, callS, moveS, loadS, nilS, binV, binS, unS, convS, faS, fldS, iaS, ixS, slS, lenS, buildS, fillS, extS, ifS, capsS, boundS, strLen, minS, maxS, pickS, plainS, oneS, onesS, cellsS, ev, evs, getS, ofVal, takeN, takeAt, layN, nthS, setN, snoc, lenN, unw, memN, trimS, TE.sv, argS, cxOf, lays, ↓reduceIte, reduceCtorEq, Value.oneCell', Nat.reduceEqDiff, Nat.reduceAdd, Nat.reduceLT, Nat.reduceBEq, Nat.reduceSub, Nat.reduceLeDiff, e00, e01, e02, e03, e04, e05, e06, e07, e08, e09, e10, e11, e12, e13, e14, e15, e16, e17, e18, e19, e20, e21, e22, e23, e24, e25, e26, e27, e28, e29, e30, e31, e32, e33, e34, cE, cOE, hcs, hap, killE, deadOf, rwE, cD, cO, consD, gdS, eqB, newC, mkV, storeC, firstN, snocAll, appAll, dropN, repN, putSl, slAt, allL, lvC, softC, ckD, ckO, hcallC, wfC, wfL, wfE, wfV, hP, hk, res4, kp4, lwC, c0', hm, w1, w2])
    have hbs : SrcOk C (lgE j j) (.sl 0 0 j j) (xs j).length ((xs j).map fun b => SC.i .u8 (b.toNat : Int)) := by
      rw [xs_len]
      exact src_sl (L := j) rfl (lg_take j)
    refine bytes_op (bs := xs j) (s := 31) (e := 5) (X := .sl 0 0 j j) (by rw [hP]; exact Tryz.underlying31) (by rw [hP]; exact Tryz.underlying9) (by rw [hP]; exact Tryz.underlying5) rfl hbs rfl (by simp) ?_
    have hxl : (xs j).length = j := xs_len j
    have hw1 : IntKind.i64.wrap ((j : Int) + 1) = (j : Int) + 1 := by rw [IntWalk.i64_in _ (by omega)]
    have hw2 : ((j : Int) + 1 == (j : Int) + 1) = true := by simp
    (refine VT_ok hctr (rs := res4) true 300 _ _ _ ?_; simp (config := { maxSteps := 1000000 }) only [VT, f00, f01, opG_t, opG_f, putG_t, putG_f, VC, appL, repZ, mkFs, newSl, resS, teS, resV, opK, putK, storeK, softS, eqC, eqCs, callS, moveS, loadS, nilS, binV, binS, unS, convS, faS, fldS, iaS, ixS, slS, lenS, buildS, fillS, extS, ifS, capsS, boundS, strLen, minS, maxS, pickS, plainS, oneS, onesS, cellsS, ev, evs, getS, ofVal, takeN, takeAt, layN, nthS, setN, snoc, lenN, unw, memN, trimS, TE.sv, argS, cxOf, lays, ↓reduceIte, reduceCtorEq, Value.oneCell', Nat.reduceEqDiff, Nat.reduceAdd, Nat.reduceLT, Nat.reduceBEq, Nat.reduceSub, Nat.reduceLeDiff, e00, e01, e02, e03, e04, e05, e06, e07, e08, e09, e10, e11, e12, e13, e14, e15, e16, e17, e18, e19, e20, e21, e22, e23, e24, e25, e26, e27, e28, e29, e30, e31, e32, e33, e34, cE, cOE, hcs, hap, killE, deadOf, rwE, cD, cO, consD, gdS, eqB, newC, mkV, storeC, firstN, snocAll, appAll, dropN, repN, putSl, slAt, allL, lvC, softC, ckD, ckO, hcallC, wfC, wfL, wfE, wfV, hP, hk, res4, kp4, lwC, c0', hm, w1, w2])
    by_cases h2 : j < 2048
    · have g2 : decide (2048 ≤ (j : Int)) = false := decide_eq_false (by omega)
      refine Run_parse _ (long_none (n := j) h2) (by rw [xs_len]; omega) hP hE (by rw [hn0]; exact Nat.zero_le _) (by rfl) (by simp) ?_
      (refine VT_ok hctr (rs := res4) true 300 _ _ _ ?_; simp (config := { maxSteps := 1000000 }) only [VT, f00, f01, opG_t, opG_f, putG_t, putG_f, VC, appL, repZ, mkFs, newSl, resS, teS, resV, opK, putK, storeK, softS, eqC, eqCs, callS, moveS, loadS, nilS, binV, binS, unS, convS, faS, fldS, iaS, ixS, slS, lenS, buildS, fillS, extS, ifS, capsS, boundS, strLen, minS, maxS, pickS, plainS, oneS, onesS, cellsS, ev, evs, getS, ofVal, takeN, takeAt, layN, nthS, setN, snoc, lenN, unw, memN, trimS, TE.sv, argS, cxOf, lays, ↓reduceIte, reduceCtorEq, Value.oneCell', Nat.reduceEqDiff, Nat.reduceAdd, Nat.reduceLT, Nat.reduceBEq, Nat.reduceSub, Nat.reduceLeDiff, e00, e01, e02, e03, e04, e05, e06, e07, e08, e09, e10, e11, e12, e13, e14, e15, e16, e17, e18, e19, e20, e21, e22, e23, e24, e25, e26, e27, e28, e29, e30, e31, e32, e33, e34, cE, cOE, hcs, hap, killE, deadOf, rwE, cD, cO, consD, gdS, eqB, newC, mkV, storeC, firstN, snocAll, appAll, dropN, repN, putSl, slAt, allL, lvC, softC, ckD, ckO, hcallC, wfC, wfL, wfE, wfV, hP, hk, res4, kp4, lwC, psV, psE, rqS, badR, f_unknown, b_long, Rq.zero, hxl, hw1, hw2, beq_self_eq_true, g2])
      exact fin _
    · have g2 : decide (2048 ≤ (j : Int)) = true := decide_eq_true (by omega)
      have hps := long_over (n := j) (by omega) []
      rw [List.append_nil] at hps
      refine Run_parse _ hps (by rw [xs_len]; omega) hP hE (by rw [hn0]; exact Nat.zero_le _) (by rfl) (by simp) ?_
      (refine VT_ok hctr (rs := res4) true 300 _ _ _ ?_; simp (config := { maxSteps := 1000000 }) only [VT, f00, f01, opG_t, opG_f, putG_t, putG_f, VC, appL, repZ, mkFs, newSl, resS, teS, resV, opK, putK, storeK, softS, eqC, eqCs, callS, moveS, loadS, nilS, binV, binS, unS, convS, faS, fldS, iaS, ixS, slS, lenS, buildS, fillS, extS, ifS, capsS, boundS, strLen, minS, maxS, pickS, plainS, oneS, onesS, cellsS, ev, evs, getS, ofVal, takeN, takeAt, layN, nthS, setN, snoc, lenN, unw, memN, trimS, TE.sv, argS, cxOf, lays, ↓reduceIte, reduceCtorEq, Value.oneCell', Nat.reduceEqDiff, Nat.reduceAdd, Nat.reduceLT, Nat.reduceBEq, Nat.reduceSub, Nat.reduceLeDiff, e00, e01, e02, e03, e04, e05, e06, e07, e08, e09, e10, e11, e12, e13, e14, e15, e16, e17, e18, e19, e20, e21, e22, e23, e24, e25, e26, e27, e28, e29, e30, e31, e32, e33, e34, cE, cOE, hcs, hap, killE, deadOf, rwE, cD, cO, consD, gdS, eqB, newC, mkV, storeC, firstN, snocAll, appAll, dropN, repN, putSl, slAt, allL, lvC, softC, ckD, ckO, hcallC, wfC, wfL, wfE, wfV, hP, hk, res4, kp4, lwC, psV, psE, rqS, badR, f_unknown, b_long, Rq.zero, hxl, hw1, hw2, beq_self_eq_true, g2])
      exact fin _
theorem long_nt {name : Int} {v : Nat} (c0 : name < 0) (hm : (-(name + 1)).tmod 2100 = (v : Int)) (hv : v < 2100) (cn : -9223372036854775808 ≤ name) (cm : name ≤ 9223372036854775807) (w : World) (hE0 : EnvT w) :
    Calls Tryz.prog 4 #[.int .i64 name, .bool true] w fun e w' => e = .returned (.bool true) ∧ Below w.heap.size w w' := by
  refine calls_of_Run Tryz.func4 rfl kp4 (S := Non) (ρ := fun _ => reOf 0) (en := []) [.c (.i .i64 name), .c (.b true)] Tryz.ntmps4 (At.nil _ _ _) (by simp [SV.wf, SC.wf]) (by simp) ?_
  intro C hC hP hk
  have hE : ∀ w', Upd C.S C.w0 w' → EnvT w' := fun w' hu => by rw [hC] at hu; exact hE0.below hu.to_below
  have hctr := lwC_ok hP hE
  have hn0 : C.n0 = 0 := by rw [hC]; rfl
  have fin : ∀ en, Fin C res4 (.c (.b true)) en := fun en => Fin_ro (v := .c (.b true)) hC hres4 rfl trivial
  have c0' : decide (name < 0) = true := decide_eq_true c0
  obtain ⟨n, hn⟩ : ∃ n, v + 1 = n := ⟨_, rfl⟩
  have w2 : IntKind.i64.wrap (1 + (v : Int)) = (n : Int) := by rw [IntKind.wrap_i64]; omega
  have w1 : IntKind.i64.wrap (v : Int) = (v : Int) := by rw [IntKind.wrap_i64]; omega
  have w3 : IntKind.i64.wrap (name + 1) = name + 1 := by rw [IntKind.wrap_i64]; omega
  obtain ⟨u, huu⟩ : ∃ u, -(name + 1) = u := ⟨_, rfl⟩
  have w4 : IntKind.i64.wrap (0 - (name + 1)) = u := by rw [IntKind.wrap_i64]; omega
  rw [huu] at hm
  (refine VT_ok hctr (rs := res4) true 300 _ _ _ ?_; simp (config := { maxSteps := 1000000 }) only [VT, f00, f01, opG_t, opG_f, putG_t, putG_f, VC, appL, repZ, mkFs, newSl, resS, teS, resV, opK, putK, storeK, softS, eqC, eqCs, callS, moveS, loadS, nilS, binV, binS, unS, convS, faS, fldS, iaS, ixS, slS, lenS, buildS, fillS, extS, ifS, capsS, boundS, strLen, minS, maxS, pickS, plainS, oneS, onesS, cellsS, ev, evs, getS, ofVal, takeN, takeAt, layN, nthS, setN, snoc, lenN, unw, memN, trimS, TE.sv, argS, cxOf, lays, ↓reduceIte, reduceCtorEq, Value.oneCell', Nat.reduceEqDiff, Nat.reduceAdd, Nat.reduceLT, Nat.reduceBEq, Nat.reduceSub, Nat.reduceLeDiff, e00, e01, e02, e03, e04, e05, e06, e07, e08, e09, e10, e11, e12, e13, e14, e15, e16, e17, e18, e19, e20, e21, e22, e23, e24, e25, e26, e27, e28, e29, e30, e31, e32, e33, e34, cE, cOE, hcs, hap, killE, deadOf, rwE, cD, cO, consD, gdS, eqB, newC, mkV, storeC, firstN, snocAll, appAll, dropN, repN, putSl, slAt, allL, lvC, softC, ckD, ckO, hcallC, wfC, wfL, wfE, wfV, hP, hk, res4, kp4, lwC, c0', hm, w1, w2, w3, w4])
  refine ⟨by decide, ?_⟩
  obtain ⟨i0, hi', hz0, hz1, hz2⟩ := info_parts infoU8
  refine make_op (t := 31) (e := 5) (n := n) (bts := 1) (z := .i .u8 0) (by rw [hP]; exact Tryz.underlying31) (by rw [hP]; exact hi') hz0 hz1 hz2 rfl (fun _ => rfl) (fun _ => trivial) (by show ¬ (5 : Nat) = DEAD; decide) rfl rfl (by omega) (by omega) rfl (by simp) ?_
  (refine VT_ok hctr (rs := res4) true 300 _ _ _ ?_; simp (config := { maxSteps := 1000000 }) only [VT, f00, f01, opG_t, opG_f, putG_t, putG_f, VC, appL, repZ, mkFs, newSl, resS, teS, resV, opK, putK, storeK, softS, eqC, eqCs, callS, moveS, loadS, nilS, binV, binS, unS, convS, faS, fldS, iaS, ixS, slS, lenS, buildS, fillS, extS, ifS, capsS, boundS, strLen, minS, maxS, pickS, plainS, oneS, onesS, cellsS, ev, evs, getS, ofVal, takeN, takeAt, layN, nthS, setN, snoc, lenN, unw, memN, trimS, TE.sv, argS, cxOf, lays, ↓reduceIte, reduceCtorEq, Value.oneCell', Nat.reduceEqDiff, Nat.reduceAdd, Nat.reduceLT, Nat.reduceBEq, Nat.reduceSub, Nat.reduceLeDiff, e00, e01, e02, e03, e04, e05, e06, e07, e08, e09, e10, e11, e12, e13, e14, e15, e16, e17, e18, e19, e20, e21, e22, e23, e24, e25, e26, e27, e28, e29, e30, e31, e32, e33, e34, cE, cOE, hcs, hap, killE, deadOf, rwE, cD, cO, consD, gdS, eqB, newC, mkV, storeC, firstN, snocAll, appAll, dropN, repN, putSl, slAt, allL, lvC, softC, ckD, ckO, hcallC, wfC, wfL, wfE, wfV, hP, hk, res4, kp4, lwC, c0', hm, w1, w2, w3, w4])
  refine Run_loopP (ι := { j : Nat // j ≤ n }) (fun j => lgS n j.1 true) (fun j => lgE n j.1) (fun j => n - j.1) ⟨0, Nat.zero_le _⟩ (sub_mk ⟨rfl, rfl, rfl, rfl, rfl, rfl, trivial⟩) rfl ?_
  rintro ⟨j, hj⟩ D dP dS dw dn dr dk ddf dPan dRet hX hJ
  have hP0 := hP; have hk0 := hk; have hctr0 := hctr
  have hP : D.P = Tryz.prog := by rw [dP]; exact hP0
  have hk : D.kp = kp4 := by rw [dk]; exact hk0
  have hctr : CtrOk D lwC := lwC_ok hP (by rw [dS, dw]; exact hE)
  show Run D _ _ (lgS n j true) (lgE n j)
  by_cases hjn : j < n
  · have c1 : decide ((j : Int) < (n : Int)) = true := decide_eq_true (by omega)
    have p3 : IntKind.i64.wrap ((j : Int) + 1) = ((j + 1 : Nat) : Int) := by rw [IntWalk.i64_in _ (by omega)]; rfl
    have p0 : (0 : Int) ≤ (j : Int) := by omega
    have p1 : (j : Int) < ((n : Nat) : Int) := by omega
    have hly := lg_lay hjn
    (refine VT_ok hctr (rs := res4) true 300 _ _ _ ?_; simp (config := { maxSteps := 1000000 }) only [VT, f00, f01, opG_t, opG_f, putG_t, putG_f, VC, appL, repZ, mkFs, newSl, resS, teS, resV, opK, putK, storeK, softS, eqC, eqCs, callS, moveS, loadS, nilS, binV, binS, unS, convS, faS, fldS, iaS, ixS, slS, lenS, buildS, fillS, extS, ifS, capsS, boundS, strLen, minS, maxS, pickS, plainS, oneS, onesS, cellsS, ev, evs, getS, ofVal, takeN, takeAt, layN, nthS, setN, snoc, lenN, unw, memN, trimS, TE.sv, argS, cxOf, lays, ↓reduceIte, reduceCtorEq, Value.oneCell', Nat.reduceEqDiff, Nat.reduceAdd, Nat.reduceLT, Nat.reduceBEq, Nat.reduceSub, Nat.reduceLeDiff, e00, e01, e02, e03, e04, e05, e06, e07, e08, e09, e10, e11, e12, e13, e14, e15, e16, e17, e18, e19, e20, e21, e22, e23, e24, e25, e26, e27, e28, e29, e30, e31, e32, e33, e34, cE, cOE, hcs, hap, killE, deadOf, rwE, cD, cO, consD, gdS, eqB, newC, mkV, storeC, firstN, snocAll, appAll, dropN, repN, putSl, slAt, allL, lvC, softC, ckD, ckO, hcallC, wfC, wfL, wfE, wfV, hP, hk, res4, kp4, lgS, lgE, lwC, c1, p3, p0, p1, hly, Int.toNat_natCast, Nat.mul_one, Nat.zero_add])
    exact hJ ⟨j + 1, by omega⟩ _ (by show n - (j + 1) < n - j; omega) (sub_mk ⟨rfl, rfl, rfl, rfl, rfl, rfl, trivial⟩)
  · obtain rfl : j = n := by omega
    have c1 : decide ((j : Int) < (j : Int)) = false := decide_eq_false (by omega)
    (refine VT_ok hctr (rs := res4) true 300 _ _ _ ?_; simp (config := { maxSteps := 1000000 }) only [VT, f00, f01, opG_t, opG_f, putG_t, putG_f, VC, appL, repZ, mkFs, newSl, resS, teS, resV, opK, putK, storeK, softS, eqC, eqCs, callS, moveS, loadS, nilS, binV, binS, unS, convS, faS, fldS, iaS, ixS, slS, lenS, buildS, fillS, extS, ifS, capsS, boundS, strLen, minS, maxS, pickS, plainS, oneS, onesS, cellsS, ev, evs, getS, ofVal, takeN, takeAt, layN, nthS, setN, snoc, lenN, unw, memN, trimS, TE.sv, argS, cxOf, lays, ↓reduceIte, reduceCtorEq, Value.oneCell', Nat.reduceEqDiff, Nat.reduceAdd, Nat.reduceLT, Nat.reduceBEq, Nat.reduceSub, Nat.reduceLeDiff, e00, e01, e02, e03, e04, e05, e06, e07, e08, e09, e10, e11, e12, e13, e14, e15, e16, e17, e18, e19, e20, e21, e22, e23, e24, e25, e26, e27, e28, e29, e30, e31, e32, e33, e34, cE, cOE, hcs, hap, killE, deadOf, rwE, cD, cO, consD, gdS, eqB, newC, mkV, storeC, firstN, snocAll, appAll, dropN, repN, putSl, slAt, allL, lvC, softC, ckD, ckO, hcallC, wfC, wfL, wfE, wfV, hP, hk, res4, kp4, lgS, lgE, lwC, c1])
    refine hX rfl rfl ?_
    have hP := hP0; have hk := hk0; have hctr := hctr0
    (refine VT_ok hctr (rs := res4) true 300 _ _ _ ?_; simp (config := { maxSteps := 1000000 }) only [VT, f00, f01, opG_t, opG_f, putG_t, putG_f, VC, appL, repZ, mkFs, newSl, resS, teS, resV, opK, putK, storeK, softS, eqC, eqCs, callS, moveS, loadS, nilS, binV, binS, unS, convS, faS, fldS, iaS, ixS, slS, lenS, buildS, fillS, extS, ifS, capsS, boundS, strLen, minS, maxS, pickS, plainS, oneS, onesS, cellsS, ev, evs, getS, ofVal, takeN, takeAt, layN, nthS, setN, snoc, lenN, unw, memN, trimS, TE.sv, argS, cxOf, lays, ↓reduceIte, reduceCtorEq, Value.oneCell', Nat.reduceEqDiff, Nat.reduceAdd, Nat.reduceLT, Nat.reduceBEq, Nat.reduceSub, Nat.reduceLeDiff, e00, e01, e02, e03, e04, e05, e06, e07, e08, e09, e10, e11, e12, e13, e14, e15, e16, e17, e18, e19, e20, e21, e22, e23, e24, e25, e26, e27, e28, e29, e30, e31, e32, e33, e34, cE, cOE, hcs, hap, killE, deadOf, rwE, cD, cO, consD, gdS, eqB, newC, mkV, storeC, firstN, snocAll, appAll, dropN, repN, putSl, slAt, allL, lvC, softC, ckD, ckO, hcallC, wfC, wfL, wfE, wfV, hP, hk, res4, kp4, lwC, c0', hm, w1, w2, w3, w4])
    have hbs : SrcOk C (lgE j j) (.sl 0 0 j j) (xs j).length ((xs j).map fun b => SC.i .u8 (b.toNat : Int)) := by
      rw [xs_len]
      exact src_sl (L := j) rfl (lg_take j)
    refine bytes_op (bs := xs j) (s := 31) (e := 5) (X := .sl 0 0 j j) (by rw [hP]; exact Tryz.underlying31) (by rw [hP]; exact Tryz.underlying9) (by rw [hP]; exact Tryz.underlying5) rfl hbs rfl (by simp) ?_
    have hxl : (xs j).length = j := xs_len j
    have hw1 : IntKind.i64.wrap ((j : Int) + 1) = (j : Int) + 1 := by rw [IntWalk.i64_in _ (by omega)]
    have hw2 : ((j : Int) + 1 == (j : Int) + 1) = true := by simp
    (refine VT_ok hctr (rs := res4) true 300 _ _ _ ?_; simp (config := { maxSteps := 1000000 }) only [VT, f00, f01, opG_t, opG_f, putG_t, putG_f, VC, appL, repZ, mkFs, newSl, resS, teS, resV, opK, putK, storeK, softS, eqC, eqCs, callS, moveS, loadS, nilS, binV, binS, unS, convS, faS, fldS, iaS, ixS, slS, lenS, buildS, fillS, extS, ifS, capsS, boundS, strLen, minS, maxS, pickS, plainS, oneS, onesS, cellsS, ev, evs, getS, ofVal, takeN, takeAt, layN, nthS, setN, snoc, lenN, unw, memN, trimS, TE.sv, argS, cxOf, lays, ↓reduceIte, reduceCtorEq, Value.oneCell', Nat.reduceEqDiff, Nat.reduceAdd, Nat.reduceLT, Nat.reduceBEq, Nat.reduceSub, Nat.reduceLeDiff, e00, e01, e02, e03, e04, e05, e06, e07, e08, e09, e10, e11, e12, e13, e14, e15, e16, e17, e18, e19, e20, e21, e22, e23, e24, e25, e26, e27, e28, e29, e30, e31, e32, e33, e34, cE, cOE, hcs, hap, killE, deadOf, rwE, cD, cO, consD, gdS, eqB, newC, mkV, storeC, firstN, snocAll, appAll, dropN, repN, putSl, slAt, allL, lvC, softC, ckD, ckO, hcallC, wfC, wfL, wfE, wfV, hP, hk, res4, kp4, lwC, c0', hm, w1, w2, w3, w4])
    refine ⟨by omega, ?_⟩
    by_cases h2 : j + 1 ≤ 2048
    · have g1 : decide ((j : Int) + 1 ≤ 2048) = true := decide_eq_true (by omega)
      have hps := long_end (n := j) (by omega) h2
      rw [show (((j + 1 : Nat) : Nat) : Int) = (j : Int) + 1 from rfl] at hps
      refine Run_parse _ hps (by simp [xs_len]; omega) hP hE (by rw [hn0]; exact Nat.zero_le _) (by rfl) (by simp) ?_
      (refine VT_ok hctr (rs := res4) true 300 _ _ _ ?_; simp (config := { maxSteps := 1000000 }) only [VT, f00, f01, opG_t, opG_f, putG_t, putG_f, VC, appL, repZ, mkFs, newSl, resS, teS, resV, opK, putK, storeK, softS, eqC, eqCs, callS, moveS, loadS, nilS, binV, binS, unS, convS, faS, fldS, iaS, ixS, slS, lenS, buildS, fillS, extS, ifS, capsS, boundS, strLen, minS, maxS, pickS, plainS, oneS, onesS, cellsS, ev, evs, getS, ofVal, takeN, takeAt, layN, nthS, setN, snoc, lenN, unw, memN, trimS, TE.sv, argS, cxOf, lays, ↓reduceIte, reduceCtorEq, Value.oneCell', Nat.reduceEqDiff, Nat.reduceAdd, Nat.reduceLT, Nat.reduceBEq, Nat.reduceSub, Nat.reduceLeDiff, e00, e01, e02, e03, e04, e05, e06, e07, e08, e09, e10, e11, e12, e13, e14, e15, e16, e17, e18, e19, e20, e21, e22, e23, e24, e25, e26, e27, e28, e29, e30, e31, e32, e33, e34, cE, cOE, hcs, hap, killE, deadOf, rwE, cD, cO, consD, gdS, eqB, newC, mkV, storeC, firstN, snocAll, appAll, dropN, repN, putSl, slAt, allL, lvC, softC, ckD, ckO, hcallC, wfC, wfL, wfE, wfV, hP, hk, res4, kp4, lwC, psV, psE, rqS, badR, f_unknown, b_long, Rq.zero, hxl, hw1, hw2, beq_self_eq_true, g1])
      exact fin _
    · have g1 : decide ((j : Int) + 1 ≤ 2048) = false := decide_eq_false (by omega)
      have g2 : decide (2048 ≤ (j : Int)) = true := decide_eq_true (by omega)
      refine Run_parse _ (long_over (n := j) (by omega) [10]) (by simp [xs_len]; omega) hP hE (by rw [hn0]; exact Nat.zero_le _) (by rfl) (by simp) ?_
      (refine VT_ok hctr (rs := res4) true 300 _ _ _ ?_; simp (config := { maxSteps := 1000000 }) only [VT, f00, f01, opG_t, opG_f, putG_t, putG_f, VC, appL, repZ, mkFs, newSl, resS, teS, resV, opK, putK, storeK, softS, eqC, eqCs, callS, moveS, loadS, nilS, binV, binS, unS, convS, faS, fldS, iaS, ixS, slS, lenS, buildS, fillS, extS, ifS, capsS, boundS, strLen, minS, maxS, pickS, plainS, oneS, onesS, cellsS, ev, evs, getS, ofVal, takeN, takeAt, layN, nthS, setN, snoc, lenN, unw, memN, trimS, TE.sv, argS, cxOf, lays, ↓reduceIte, reduceCtorEq, Value.oneCell', Nat.reduceEqDiff, Nat.reduceAdd, Nat.reduceLT, Nat.reduceBEq, Nat.reduceSub, Nat.reduceLeDiff, e00, e01, e02, e03, e04, e05, e06, e07, e08, e09, e10, e11, e12, e13, e14, e15, e16, e17, e18, e19, e20, e21, e22, e23, e24, e25, e26, e27, e28, e29, e30, e31, e32, e33, e34, cE, cOE, hcs, hap, killE, deadOf, rwE, cD, cO, consD, gdS, eqB, newC, mkV, storeC, firstN, snocAll, appAll, dropN, repN, putSl, slAt, allL, lvC, softC, ckD, ckO, hcallC, wfC, wfL, wfE, wfV, hP, hk, res4, kp4, lwC, psV, psE, rqS, badR, f_unknown, b_long, Rq.zero, hxl, hw1, hw2, beq_self_eq_true, g1, g2])
      exact fin _
theorem long_nf {name : Int} {v : Nat} (c0 : name < 0) (hm : (-(name + 1)).tmod 2100 = (v : Int)) (hv : v < 2100) (cn : -9223372036854775808 ≤ name) (cm : name ≤ 9223372036854775807) (w : World) (hE0 : EnvT w) :
    Calls Tryz.prog 4 #[.int .i64 name, .bool false] w fun e w' => e = .returned (.bool true) ∧ Below w.heap.size w w' := by
  refine calls_of_Run Tryz.func4 rfl kp4 (S := Non) (ρ := fun _ => reOf 0) (en := []) [.c (.i .i64 name), .c (.b false)] Tryz.ntmps4 (At.nil _ _ _) (by simp [SV.wf, SC.wf]) (by simp) ?_
  intro C hC hP hk
  have hE : ∀ w', Upd C.S C.w0 w' → EnvT w' := fun w' hu => by rw [hC] at hu; exact hE0.below hu.to_below
  have hctr := lwC_ok hP hE
  have hn0 : C.n0 = 0 := by rw [hC]; rfl
  have fin : ∀ en, Fin C res4 (.c (.b true)) en := fun en => Fin_ro (v := .c (.b true)) hC hres4 rfl trivial
  have c0' : decide (name < 0) = true := decide_eq_true c0
  obtain ⟨n, hn⟩ : ∃ n, v + 1 = n := ⟨_, rfl⟩
  have w2 : IntKind.i64.wrap (1 + (v : Int)) = (n : Int) := by rw [IntKind.wrap_i64]; omega
  have w1 : IntKind.i64.wrap (v : Int) = (v : Int) := by rw [IntKind.wrap_i64]; omega
  have w3 : IntKind.i64.wrap (name + 1) = name + 1 := by rw [IntKind.wrap_i64]; omega
  obtain ⟨u, huu⟩ : ∃ u, -(name + 1) = u := ⟨_, rfl⟩
  have w4 : IntKind.i64.wrap (0 - (name + 1)) = u := by rw [IntKind.wrap_i64]; omega
  rw [huu] at hm
  (refine VT_ok hctr (rs := res4) true 300 _ _ _ ?_; simp (config := { maxSteps := 1000000 }) only [VT, f00, f01, opG_t, opG_f, putG_t, putG_f, VC, appL, repZ, mkFs, newSl, resS, teS, resV, opK, putK, storeK, softS, eqC, eqCs, callS, moveS, loadS, nilS, binV, binS, unS, convS, faS, fldS, iaS, ixS, slS, lenS, buildS, fillS, extS, ifS, capsS, boundS, strLen, minS, maxS, pickS, plainS, oneS, onesS, cellsS, ev, evs, getS, ofVal, takeN, takeAt, layN, nthS, setN, snoc, lenN, unw, memN, trimS, TE.sv, argS, cxOf, lays, ↓reduceIte, reduceCtorEq, Value.oneCell', Nat.reduceEqDiff, Nat.reduceAdd, Nat.reduceLT, Nat.reduceBEq, Nat.reduceSub, Nat.reduceLeDiff, e00, e01, e02, e03, e04, e05, e06, e07, e08, e09, e10, e11, e12, e13, e14, e15, e16, e17, e18, e19, e20, e21, e22, e23, e24, e25, e26, e27, e28, e29, e30, e31, e32, e33, e34, cE, cOE, hcs, hap, killE, deadOf, rwE, cD, cO, consD, gdS, eqB, newC, mkV, storeC, firstN, snocAll, appAll, dropN, repN, putSl, slAt, allL, lvC, softC, ckD, ckO, hcallC, wfC, wfL, wfE, wfV, hP, hk, res4, kp4, lwC, c0', hm, w1, w2, w3, w4])
  refine ⟨by decide, ?_⟩
  obtain ⟨i0, hi', hz0, hz1, hz2⟩ := info_parts infoU8
  refine make_op (t := 31) (e := 5) (n := n) (bts := 1) (z := .i .u8 0) (by rw [hP]; exact Tryz.underlying31) (by rw [hP]; exact hi') hz0 hz1 hz2 rfl (fun _ => rfl) (fun _ => trivial) (by show ¬ (5 : Nat) = DEAD; decide) rfl rfl (by omega) (by omega) rfl (by simp) ?_
  (refine VT_ok hctr (rs := res4) true 300 _ _ _ ?_; simp (config := { maxSteps := 1000000 }) only [VT, f00, f01, opG_t, opG_f, putG_t, putG_f, VC, appL, repZ, mkFs, newSl, resS, teS, resV, opK, putK, storeK, softS, eqC, eqCs, callS, moveS, loadS, nilS, binV, binS, unS, convS, faS, fldS, iaS, ixS, slS, lenS, buildS, fillS, extS, ifS, capsS, boundS, strLen, minS, maxS, pickS, plainS, oneS, onesS, cellsS, ev, evs, getS, ofVal, takeN, takeAt, layN, nthS, setN, snoc, lenN, unw, memN, trimS, TE.sv, argS, cxOf, lays, ↓reduceIte, reduceCtorEq, Value.oneCell', Nat.reduceEqDiff, Nat.reduceAdd, Nat.reduceLT, Nat.reduceBEq, Nat.reduceSub, Nat.reduceLeDiff, e00, e01, e02, e03, e04, e05, e06, e07, e08, e09, e10, e11, e12, e13, e14, e15, e16, e17, e18, e19, e20, e21, e22, e23, e24, e25, e26, e27, e28, e29, e30, e31, e32, e33, e34, cE, cOE, hcs, hap, killE, deadOf, rwE, cD, cO, consD, gdS, eqB, newC, mkV, storeC, firstN, snocAll, appAll, dropN, repN, putSl, slAt, allL, lvC, softC, ckD, ckO, hcallC, wfC, wfL, wfE, wfV, hP, hk, res4, kp4, lwC, c0', hm, w1, w2, w3, w4])
  refine Run_loopP (ι := { j : Nat // j ≤ n }) (fun j => lgS n j.1 false) (fun j => lgE n j.1) (fun j => n - j.1) ⟨0, Nat.zero_le _⟩ (sub_mk ⟨rfl, rfl, rfl, rfl, rfl, rfl, trivial⟩) rfl ?_
  rintro ⟨j, hj⟩ D dP dS dw dn dr dk ddf dPan dRet hX hJ
  have hP0 := hP; have hk0 := hk; have hctr0 := hctr
  have hP : D.P = Tryz.prog := by rw [dP]; exact hP0
  have hk : D.kp = kp4 := by rw [dk]; exact hk0
  have hctr : CtrOk D lwC := lwC_ok hP (by rw [dS, dw]; exact hE)
  show Run D _ _ (lgS n j false) (lgE n j)
  by_cases hjn : j < n
  · have c1 : decide ((j : Int) < (n : Int)) = true := decide_eq_true (by omega)
    have p3 : IntKind.i64.wrap ((j : Int) + 1) = ((j + 1 : Nat) : Int) := by rw [IntWalk.i64_in _ (by omega)]; rfl
    have p0 : (0 : Int) ≤ (j : Int) := by omega
    have p1 : (j : Int) < ((n : Nat) : Int) := by omega
    have hly := lg_lay hjn
    (refine VT_ok hctr (rs := res4) true 300 _ _ _ ?_; simp (config := { maxSteps := 1000000 }) only [VT, f00, f01, opG_t, opG_f, putG_t, putG_f, VC, appL, repZ, mkFs, newSl, resS, teS, resV, opK, putK, storeK, softS, eqC, eqCs, callS, moveS, loadS, nilS, binV, binS, unS, convS, faS, fldS, iaS, ixS, slS, lenS, buildS, fillS, extS, ifS, capsS, boundS, strLen, minS, maxS, pickS, plainS, oneS, onesS, cellsS, ev, evs, getS, ofVal, takeN, takeAt, layN, nthS, setN, snoc, lenN, unw, memN, trimS, TE.sv, argS, cxOf, lays, ↓reduceIte, reduceCtorEq, Value.oneCell', Nat.reduceEqDiff, Nat.reduceAdd, Nat.reduceLT, Nat.reduceBEq, Nat.reduceSub, Nat.reduceLeDiff, e00, e01, e02, e03, e04, e05, e06, e07, e08, e09, e10, e11, e12, e13, e14, e15, e16, e17, e18, e19, e20, e21, e22, e23, e24, e25, e26, e27, e28, e29, e30, e31, e32, e33, e34, cE, cOE, hcs, hap, killE, deadOf, rwE, cD, cO, consD, gdS, eqB, newC, mkV, storeC, firstN, snocAll, appAll, dropN, repN, putSl, slAt, allL, lvC, softC, ckD, ckO, hcallC, wfC, wfL, wfE, wfV, hP, hk, res4, kp4, lgS, lgE, lwC, c1, p3, p0, p1, hly, Int.toNat_natCast, Nat.mul_one, Nat.zero_add])
    exact hJ ⟨j + 1, by omega⟩ _ (by show n - (j + 1) < n - j; omega) (sub_mk ⟨rfl, rfl, rfl, rfl, rfl, rfl, trivial⟩)
  · obtain rfl : j = n := by omega
    have c1 : decide ((j : Int) < (j : Int)) = false := decide_eq_false (by omega)
    (refine VT_ok hctr (rs := res4) true 300 _ _ _ ?_; simp (config := { maxSteps := 1000000 }) only [VT, f00, f01, opG_t, opG_f, putG_t, putG_f, VC, appL, repZ, mkFs, newSl, resS, teS, resV, opK, putK, storeK, softS, eqC, eqCs, callS, moveS, loadS, nilS, binV, binS, unS, convS, faS, fldS, iaS, ixS, slS, lenS, buildS, fillS, extS, ifS, capsS, boundS, strLen, minS, maxS, pickS, plainS, oneS, onesS, cellsS, ev, evs, getS, ofVal, takeN, takeAt, layN, nthS, setN, snoc, lenN, unw, memN, trimS, TE.sv, argS, cxOf, lays, ↓reduceIte, reduceCtorEq, Value.oneCell', Nat.reduceEqDiff, Nat.reduceAdd, Nat.reduceLT, Nat.reduceBEq, Nat.reduceSub, Nat.reduceLeDiff, e00, e01, e02, e03, e04, e05, e06, e07, e08, e09, e10, e11, e12, e13, e14, e15, e16, e17, e18, e19, e20, e21, e22, e23, e24, e25, e26, e27, e28, e29, e30, e31, e32, e33, e34, cE, cOE, hcs, hap, killE, deadOf, rwE, cD, cO, consD, gdS, eqB, newC, mkV, storeC, firstN, snocAll, appAll, dropN, repN, putSl, slAt, allL, lvC, softC, ckD, ckO, hcallC, wfC, wfL, wfE, wfV, hP, hk, res4, kp4, lgS, lgE, lwC, c1])
    refine hX rfl rfl ?_
    have hP := hP0; have hk := hk0; have hctr := hctr0
    (refine VT_ok hctr (rs := res4) true 300 _ _ _ ?_; simp (config := { maxSteps := 1000000 }) only [VT, f00, f01, opG_t, opG_f, putG_t, putG_f, VC, appL, repZ, mkFs, newSl, resS, teS, resV, opK, putK, storeK, softS, eqC, eqCs, callS, moveS, loadS, nilS, binV, binS, unS, convS, faS, fldS, iaS, ixS, slS, lenS, buildS, fillS, extS, ifS, capsS, boundS, strLen, minS, maxS, pickS, plainS, oneS, onesS, cellsS, ev, evs, getS, ofVal, takeN, takeAt, layN, nthS, setN, snoc, lenN, unw, memN, trimS, TE.sv, argS, cxOf, lays, ↓reduceIte, reduceCtorEq, Value.oneCell', Nat.reduceEqDiff, Nat.reduceAdd, Nat.reduceLT, Nat.reduceBEq, Nat.reduceSub, Nat.reduceLeDiff, e00, e01, e02, e03, e04, e05, e06, e07, e08, e09, e10, e11, e12, e13, e14, e15, e16, e17, e18, e19, e20, e21, e22, e23, e24, e25, e26, e27, e28, e29, e30, e31, e32, e33, e34, cE, cOE, hcs, hap, killE, deadOf, rwE, cD, cO, consD, gdS, eqB, newC, mkV, storeC, firstN, snocAll, appAll, dropN, repN, putSl, slAt, allL, lvC, softC, ckD, ckO, hcallC, wfC, wfL, wfE, wfV, hP, hk, res4, kp4, lwC, c0', hm, w1, w2, w3, w4])
    have hbs : SrcOk C (lgE j j) (.sl 0 0 j j) (xs j).length ((xs j).map fun b => SC.i .u8 (b.toNat : Int)) := by
      rw [xs_len]
      exact src_sl (L := j) rfl (lg_take j)
    refine bytes_op (bs := xs j) (s := 31) (e := 5) (X := .sl 0 0 j j) (by rw [hP]; exact Tryz.underlying31) (by rw [hP]; exact Tryz.underlying9) (by rw [hP]; exact Tryz.underlying5) rfl hbs rfl (by simp) ?_
    have hxl : (xs j).length = j := xs_len j
    have hw1 : IntKind.i64.wrap ((j : Int) + 1) = (j : Int) + 1 := by rw [IntWalk.i64_in _ (by omega)]
    have hw2 : ((j : Int) + 1 == (j : Int) + 1) = true := by simp
    (refine VT_ok hctr (rs := res4) true 300 _ _ _ ?_; simp (config := { maxSteps := 1000000 }) only [VT, f00, f01, opG_t, opG_f, putG_t, putG_f, VC, appL, repZ, mkFs, newSl, resS, teS, resV, opK, putK, storeK, softS, eqC, eqCs, callS, moveS, loadS, nilS, binV, binS, unS, convS, faS, fldS, iaS, ixS, slS, lenS, buildS, fillS, extS, ifS, capsS, boundS, strLen, minS, maxS, pickS, plainS, oneS, onesS, cellsS, ev, evs, getS, ofVal, takeN, takeAt, layN, nthS, setN, snoc, lenN, unw, memN, trimS, TE.sv, argS, cxOf, lays, ↓reduceIte, reduceCtorEq, Value.oneCell', Nat.reduceEqDiff, Nat.reduceAdd, Nat.reduceLT, Nat.reduceBEq, Nat.reduceSub, Nat.reduceLeDiff, e00, e01, e02, e03, e04, e05, e06, e07, e08, e09, e10, e11, e12, e13, e14, e15, e16, e17, e18, e19, e20, e21, e22, e23, e24, e25, e26, e27, e28, e29, e30, e31, e32, e33, e34, cE, cOE, hcs, hap, killE, deadOf, rwE, cD, cO, consD, gdS, eqB, newC, mkV, storeC, firstN, snocAll, appAll, dropN, repN, putSl, slAt, allL, lvC, softC, ckD, ckO, hcallC, wfC, wfL, wfE, wfV, hP, hk, res4, kp4, lwC, c0', hm, w1, w2, w3, w4])
    by_cases h2 : j < 2048
    · have g2 : decide (2048 ≤ (j : Int)) = false := decide_eq_false (by omega)
      refine Run_parse _ (long_none (n := j) h2) (by rw [xs_len]; omega) hP hE (by rw [hn0]; exact Nat.zero_le _) (by rfl) (by simp) ?_
      (refine VT_ok hctr (rs := res4) true 300 _ _ _ ?_; simp (config := { maxSteps := 1000000 }) only [VT, f00, f01, opG_t, opG_f, putG_t, putG_f, VC, appL, repZ, mkFs, newSl, resS, teS, resV, opK, putK, storeK, softS, eqC, eqCs, callS, moveS, loadS, nilS, binV, binS, unS, convS, faS, fldS, iaS, ixS, slS, lenS, buildS, fillS, extS, ifS, capsS, boundS, strLen, minS, maxS, pickS, plainS, oneS, onesS, cellsS, ev, evs, getS, ofVal, takeN, takeAt, layN, nthS, setN, snoc, lenN, unw, memN, trimS, TE.sv, argS, cxOf, lays, ↓reduceIte, reduceCtorEq, Value.oneCell', Nat.reduceEqDiff, Nat.reduceAdd, Nat.reduceLT, Nat.reduceBEq, Nat.reduceSub, Nat.reduceLeDiff, e00, e01, e02, e03, e04, e05, e06, e07, e08, e09, e10, e11, e12, e13, e14, e15, e16, e17, e18, e19, e20, e21, e22, e23, e24, e25, e26, e27, e28, e29, e30, e31, e32, e33, e34, cE, cOE, hcs, hap, killE, deadOf, rwE, cD, cO, consD, gdS, eqB, newC, mkV, storeC, firstN, snocAll, appAll, dropN, repN, putSl, slAt, allL, lvC, softC, ckD, ckO, hcallC, wfC, wfL, wfE, wfV, hP, hk, res4, kp4, lwC, psV, psE, rqS, badR, f_unknown, b_long, Rq.zero, hxl, hw1, hw2, beq_self_eq_true, g2])
      exact fin _
    · have g2 : decide (2048 ≤ (j : Int)) = true := decide_eq_true (by omega)
      have hps := long_over (n := j) (by omega) []
      rw [List.append_nil] at hps
      refine Run_parse _ hps (by rw [xs_len]; omega) hP hE (by rw [hn0]; exact Nat.zero_le _) (by rfl) (by simp) ?_
      (refine VT_ok hctr (rs := res4) true 300 _ _ _ ?_; simp (config := { maxSteps := 1000000 }) only [VT, f00, f01, opG_t, opG_f, putG_t, putG_f, VC, appL, repZ, mkFs, newSl, resS, teS, resV, opK, putK, storeK, softS, eqC, eqCs, callS, moveS, loadS, nilS, binV, binS, unS, convS, faS, fldS, iaS, ixS, slS, lenS, buildS, fillS, extS, ifS, capsS, boundS, strLen, minS, maxS, pickS, plainS, oneS, onesS, cellsS, ev, evs, getS, ofVal, takeN, takeAt, layN, nthS, setN, snoc, lenN, unw, memN, trimS, TE.sv, argS, cxOf, lays, ↓reduceIte, reduceCtorEq, Value.oneCell', Nat.reduceEqDiff, Nat.reduceAdd, Nat.reduceLT, Nat.reduceBEq, Nat.reduceSub, Nat.reduceLeDiff, e00, e01, e02, e03, e04, e05, e06, e07, e08, e09, e10, e11, e12, e13, e14, e15, e16, e17, e18, e19, e20, e21, e22, e23, e24, e25, e26, e27, e28, e29, e30, e31, e32, e33, e34, cE, cOE, hcs, hap, killE, deadOf, rwE, cD, cO, consD, gdS, eqB, newC, mkV, storeC, firstN, snocAll, appAll, dropN, repN, putSl, slAt, allL, lvC, softC, ckD, ckO, hcallC, wfC, wfL, wfE, wfV, hP, hk, res4, kp4, lwC, psV, psE, rqS, badR, f_unknown, b_long, Rq.zero, hxl, hw1, hw2, beq_self_eq_true, g2])
      exact fin _
theorem long_walk (name : Int) (e : Bool) (cn : -9223372036854775808 ≤ name) (cm : name ≤ 9223372036854775807) (w : World) (hE0 : EnvT w) :
    Calls Tryz.prog 4 #[.int .i64 name, .bool e] w fun e w' => e = .returned (.bool true) ∧ Below w.heap.size w w' := by
  have key : ∀ x : Int, 0 ≤ x → ∃ v : Nat, x.tmod 2100 = (v : Int) ∧ v < 2100 := fun x hx => by
    rw [Int.tmod_eq_emod_of_nonneg hx]
    exact ⟨(x % 2100).toNat, by omega, by omega⟩
  by_cases c0 : name < 0
  · obtain ⟨v, h1, h2⟩ := key (-(name + 1)) (by omega)
    cases e
    · exact long_nf c0 h1 h2 cn cm w hE0
    · exact long_nt c0 h1 h2 cn cm w hE0
  · obtain ⟨v, h1, h2⟩ := key name (by omega)
    cases e
    · exact long_pf c0 h1 h2 cn cm w hE0
    · exact long_pt c0 h1 h2 cn cm w hE0
end Go.Proofs.YtlbbldcfkalhlaaGreatDoor
