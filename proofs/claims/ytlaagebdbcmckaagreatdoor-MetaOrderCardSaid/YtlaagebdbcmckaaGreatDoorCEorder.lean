/- MetaOrder, walked. Printed by gen_eorder.py. -/
import Derived.Test.YtlaagebdbcmckaaGreatDoorCEdig
import Derived.Test.YtlaagebdbcmckaaGreatDoorCSxArr
import Derived.Test.YtlaagebdbcmckaaGreatDoorCMetaOrderL
namespace Go.Proofs.YtlaagebdbcmckaaGreatDoor
set_option linter.unusedSimpArgs false
set_option linter.unusedVariables false
set_option linter.unusedSimpArgs false
set_option linter.unusedVariables false
set_option maxHeartbeats 8000000
open Go.RowKit
set_option maxRecDepth 100000

def moC : Ctr := fun f en xs => match f with
  | 18 => (match xs with
    | [.c (.i .i64 m)] => some (0 ≤ m ∧ m ≤ 1000000, .c (.s (Lib.decDigits m.toNat)))
    | _ => none)
  | _ => quC f en xs
theorem moC_ok {C : Cx} (hP : C.P = Tryz.prog) (hE : ∀ w, Upd C.S C.w0 w → EnvT w) : CtrOk C moC := by
  intro f en xs p v h hp ρ w hup hHp hHo hinj hwf
  unfold moC at h
  split at h
  · rw [hP]
    refine ⟨fun args w => Tryz.call18 args w, ?_⟩
    split at h <;> simp only [Option.some.injEq, Prod.mk.injEq, reduceCtorEq] at h
    rename_i m
    obtain ⟨rfl, rfl⟩ := h
    refine ⟨trivial, ?_⟩
    obtain ⟨k, rfl⟩ := Int.eq_ofNat_of_zero_le hp.1
    exact dig_w k (by omega) w
  · exact quC_ok hP hE f en xs p v h hp ρ w hup hHp hHo hinj hwf
/-- whole numbers at a raw place -/
def RawI (w : World) (a : Option Addr) (n : Nat) : Prop := ∀ k, k < n → ∃ b o z, a = some ⟨b, o, none⟩ ∧ b < w.heap.size ∧ w.cell? ⟨b, o + k, none⟩ = some (.int .i64 z)
theorem RawI.rd {w : World} {a : Option Addr} {n : Nat} (h : RawI w a n) {D : Cx} (hS : D.S = Non) (hw : D.w0 = w) {k : Nat} (hk : k < n) : ∃ b o z, a = some ⟨b, o, none⟩ ∧ D.rd b (o + k) 1 = some [.i .i64 z] := by
  obtain ⟨b, o, z, ha, hb, hc⟩ := h k hk
  exact ⟨b, o, z, ha, rd_arg (vs := [.int .i64 z]) hS hw hb (fun j v hv => by
    have hj : j = 0 := by have := (List.getElem?_eq_some_iff.1 hv).1; simp at this; exact this
    subst hj
    simp only [List.getElem?_cons_zero, Option.some.injEq] at hv
    rw [← hv]; exact hc) rfl⟩
theorem infoBo : (Tryz.prog.info? 4).map (fun i => i.size) = some 1 := by kernel_rfl
theorem mo_lens : ∀ p ∈ moAll, (moLine p).length ≤ 40 ∧ p.length ≤ 3 := by decide
theorem mo_wlen (v : Nat) (hv : (Lib.decDigits v).length ≤ 20) : ∀ p ∈ moAll, (moWant v p).length ≤ 100 := by
  intro p hp
  simp only [moAll, List.mem_cons, List.not_mem_nil, or_false] at hp
  rcases hp with rfl | rfl | rfl | rfl | rfl | rfl | rfl | rfl | rfl | rfl | rfl | rfl | rfl | rfl | rfl | rfl <;> simp [moWant, moTold] <;> omega
theorem mo_ok (v : List UInt8) (hv : v.length ≤ 1000) : ∀ p ∈ moAll, RpOk ⟨1, [], false, [], 0, false, m_mg, [98] :: p.map moFlag, [89, 81, 61, 61]⟩ ⟨1, ⟨[97], 0, v, 0, 0, 0, false, false⟩, 0, true, true, false⟩ 5 := by
  intro p hp
  have hl := (mo_lens p hp).2
  have hf : ∀ k, (moFlag k).length ≤ 4 := fun k => by match k with | 0 => (exact by decide) | 1 => (exact by decide) | _ + 2 => exact Nat.le_refl 4
  refine ⟨by simp; omega, fun f hm => ?_, by simp, by show v.length ≤ _; omega, fun _ => by show v.length ≤ _; omega, by simp, by simp, by simp, by simp, by simp, by simp⟩
  simp only [List.mem_cons, List.mem_map] at hm
  rcases hm with rfl | ⟨k, _, rfl⟩
  · decide
  · have := hf k; omega
def uC (p : List Nat) (k : Nat) : SC := .b (decide (k ∈ p))
def enMo (n : Nat) (p : List Nat) : List EN := [⟨(9, 0, whole), [.s [107], .s [115], .s [79, 116, 111, 107], .s [98]], true⟩, ⟨(9, 0, whole), [.s [107, 89, 81, 61, 61], .s (115 :: Lib.decDigits n), .s [79, 116, 111, 107], .s [98]], true⟩, ⟨(48, 0, whole), [.b (decide (0 ∈ p)), .b (decide (1 ∈ p)), .b (decide (2 ∈ p)), .b true], true⟩]
def slMo (a : Option Addr) (N c : Nat) (v : List UInt8) (n : Nat) (p : List Nat) (j : Nat) : List (Nat × SV) := [(11, .c (.i .i64 (j : Int))), (10, .c (.s (moWant n p))), (9, .c (.s (moLine p))), (8, .c (.p 2 0)), (7, .c (.sl 1 0 4 4)), (6, .c (.sl 0 0 4 4)), (5, .c (.b true)), (0, .c (.v (.slice a N c))), (1, .c (.s v))]
theorem order_walk {w : World} {a : Option Addr} {N c : Nat} {v : List UInt8} (hraw : RawI w a N) (hN : N ≤ 9223372036854775807) (hv : v.length ≤ 9223372036854775807) (hE0 : EnvT w) :
    Calls Tryz.prog 8 #[.slice a N c, .string ⟨v.toArray⟩] w fun e w' => e = .returned (.bool true) ∧ Below w.heap.size w w' := by
  refine calls_of_Run Tryz.func8 rfl kp8 (S := Non) (ρ := fun _ => reOf 0) (en := []) [.c (.v (.slice a N c)), .c (.s v)] Tryz.ntmps8 (At.nil _ _ _) (by simp [SV.wf, SC.wf]) (by simp) ?_
  intro C hC hP hk
  have hE : ∀ w', Upd C.S C.w0 w' → EnvT w' := fun w' hu => by rw [hC] at hu; exact hE0.below hu.to_below
  have hctr := moC_ok hP hE
  have hn0 : C.n0 = 0 := by rw [hC]; rfl
  have fin : ∀ en, Fin C res8 (.c (.b true)) en := fun en => Fin_ro (v := .c (.b true)) hC hres8 rfl trivial
  by_cases h1000 : 1000 < v.length
  · have g0 : decide ((1000 : Int) < (v.length : Int)) = true := decide_eq_true (by omega)
    (refine VT_ok hctr (rs := res8) true 300 _ _ _ ?_; simp (config := { maxSteps := 1000000 }) only [VT, f00, f01, opG_t, opG_f, putG_t, putG_f, VC, appL, repZ, mkFs, newSl, resS, teS, resV, opK, putK, storeK, softS, eqC, eqCs, callS, moveS, loadS, nilS, binV, binS, unS, convS, faS, fldS, iaS, ixS, slS, lenS, buildS, fillS, extS, ifS, capsS, boundS, strLen, minS, maxS, pickS, plainS, oneS, onesS, cellsS, ev, evs, getS, ofVal, takeN, takeAt, layN, nthS, setN, snoc, lenN, unw, memN, trimS, TE.sv, argS, cxOf, lays, ↓reduceIte, reduceCtorEq, Value.oneCell', Nat.reduceEqDiff, Nat.reduceAdd, Nat.reduceLT, Nat.reduceBEq, Nat.reduceSub, Nat.reduceLeDiff, e00, e01, e02, e03, e04, e05, e06, e07, e08, e09, e10, e11, e12, e13, e14, e15, e16, e17, e18, e19, e20, e21, e22, e23, e24, e25, e26, e27, e28, e29, e30, e31, e32, e33, e34, cE, cOE, hcs, hap, killE, deadOf, rwE, cD, cO, consD, gdS, eqB, newC, mkV, storeC, firstN, snocAll, appAll, dropN, repN, putSl, slAt, allL, lvC, softC, ckD, ckO, hcallC, wfC, wfL, wfE, wfV, hP, hk, res8, kp8, moC, quC, shM, pmV, mqZ, mqS, cmE, flE, rwE, flatG, ecS, Cd.zero, List.length_cons, List.length_nil, List.flatMap_cons, List.flatMap_nil, List.append_nil, List.map_cons, List.map_nil, Nat.zero_add, Int.toNat_natCast, Int.toNat_zero, Nat.zero_mul, Nat.mul_one, Int.le_refl, Nat.reduceMul, g0])
    exact fin _
  have g0 : decide ((1000 : Int) < (v.length : Int)) = false := decide_eq_false (by omega)
  have v0 : (0 : Int) ≤ (v.length : Int) := by omega
  have v1 : (v.length : Int) ≤ 1000000 := by omega
  obtain ⟨n, hn⟩ : ∃ n, v.length = n := ⟨_, rfl⟩
  rw [hn] at g0 v0 v1
  obtain ⟨i0, hi', hz0⟩ := Option.map_eq_some_iff.1 infoBo
  have dl := dec_le20 (n := n) (by omega)
  (refine VT_ok hctr (rs := res8) true 300 _ _ _ ?_; simp (config := { maxSteps := 1000000 }) only [VT, f00, f01, opG_t, opG_f, putG_t, putG_f, VC, appL, repZ, mkFs, newSl, resS, teS, resV, opK, putK, storeK, softS, eqC, eqCs, callS, moveS, loadS, nilS, binV, binS, unS, convS, faS, fldS, iaS, ixS, slS, lenS, buildS, fillS, extS, ifS, capsS, boundS, strLen, minS, maxS, pickS, plainS, oneS, onesS, cellsS, ev, evs, getS, ofVal, takeN, takeAt, layN, nthS, setN, snoc, lenN, unw, memN, trimS, TE.sv, argS, cxOf, lays, ↓reduceIte, reduceCtorEq, Value.oneCell', Nat.reduceEqDiff, Nat.reduceAdd, Nat.reduceLT, Nat.reduceBEq, Nat.reduceSub, Nat.reduceLeDiff, e00, e01, e02, e03, e04, e05, e06, e07, e08, e09, e10, e11, e12, e13, e14, e15, e16, e17, e18, e19, e20, e21, e22, e23, e24, e25, e26, e27, e28, e29, e30, e31, e32, e33, e34, cE, cOE, hcs, hap, killE, deadOf, rwE, cD, cO, consD, gdS, eqB, newC, mkV, storeC, firstN, snocAll, appAll, dropN, repN, putSl, slAt, allL, lvC, softC, ckD, ckO, hcallC, wfC, wfL, wfE, wfV, hP, hk, res8, kp8, moC, quC, shM, pmV, mqZ, mqS, cmE, flE, rwE, flatG, ecS, Cd.zero, List.length_cons, List.length_nil, List.flatMap_cons, List.flatMap_nil, List.append_nil, List.map_cons, List.map_nil, Nat.zero_add, Int.toNat_natCast, Int.toNat_zero, Nat.zero_mul, Nat.mul_one, Int.le_refl, Nat.reduceMul, g0, hn, v0, v1])
  refine ⟨by omega, ?_⟩
  refine ixarr_op (n := 4) (e := 4) 1 (by rw [hP]; exact Tryz.underlying48) (by rw [hP]; exact hi') hz0 rfl rfl (by decide) (by decide) (by simp) ?_
  (refine VT_ok hctr (rs := res8) true 300 _ _ _ ?_; simp (config := { maxSteps := 1000000 }) only [VT, f00, f01, opG_t, opG_f, putG_t, putG_f, VC, appL, repZ, mkFs, newSl, resS, teS, resV, opK, putK, storeK, softS, eqC, eqCs, callS, moveS, loadS, nilS, binV, binS, unS, convS, faS, fldS, iaS, ixS, slS, lenS, buildS, fillS, extS, ifS, capsS, boundS, strLen, minS, maxS, pickS, plainS, oneS, onesS, cellsS, ev, evs, getS, ofVal, takeN, takeAt, layN, nthS, setN, snoc, lenN, unw, memN, trimS, TE.sv, argS, cxOf, lays, ↓reduceIte, reduceCtorEq, Value.oneCell', Nat.reduceEqDiff, Nat.reduceAdd, Nat.reduceLT, Nat.reduceBEq, Nat.reduceSub, Nat.reduceLeDiff, e00, e01, e02, e03, e04, e05, e06, e07, e08, e09, e10, e11, e12, e13, e14, e15, e16, e17, e18, e19, e20, e21, e22, e23, e24, e25, e26, e27, e28, e29, e30, e31, e32, e33, e34, cE, cOE, hcs, hap, killE, deadOf, rwE, cD, cO, consD, gdS, eqB, newC, mkV, storeC, firstN, snocAll, appAll, dropN, repN, putSl, slAt, allL, lvC, softC, ckD, ckO, hcallC, wfC, wfL, wfE, wfV, hP, hk, res8, kp8, moC, quC, shM, pmV, mqZ, mqS, cmE, flE, rwE, flatG, ecS, Cd.zero, List.length_cons, List.length_nil, List.flatMap_cons, List.flatMap_nil, List.append_nil, List.map_cons, List.map_nil, Nat.zero_add, Int.toNat_natCast, Int.toNat_zero, Nat.zero_mul, Nat.mul_one, Int.le_refl, Nat.reduceMul, g0, hn, v0, v1, Nat.reduceAdd, Int.reduceToNat])
  refine Run_loopP (ι := { y : Nat × List Nat // y.1 ≤ N ∧ y.1 ≤ 20 ∧ y.2 ∈ moAll }) (fun y => slMo a N c v n y.1.2 y.1.1) (fun y => enMo n y.1.2) (fun y => 21 - y.1.1) ⟨(0, []), Nat.zero_le _, Nat.zero_le _, by decide⟩ (sub_mk ⟨rfl, rfl, rfl, rfl, rfl, rfl, rfl, rfl, rfl, trivial⟩) rfl ?_
  rintro ⟨⟨j, p⟩, hjN, hj20, hp⟩ D dP dS dw dn dr dk ddf dPan dRet hX hJ
  have hP0 := hP; have hk0 := hk; have hctr0 := hctr
  have hP : D.P = Tryz.prog := by rw [dP]; exact hP0
  have hk : D.kp = kp8 := by rw [dk]; exact hk0
  have hctr : CtrOk D moC := moC_ok hP (by rw [dS, dw]; exact hE)
  simp only at hjN hj20 hp
  show Run D _ _ (slMo a N c v n p j) (enMo n p)
  have hll := (mo_lens p hp).1
  have hwl := mo_wlen n dl p hp
  by_cases hj : j < N ∧ j < 20
  · have c1 : decide ((j : Int) < (N : Int)) = true := decide_eq_true (by omega)
    have c2 : decide ((j : Int) < 20) = true := decide_eq_true (by omega)
    have p0 : (0 : Int) ≤ (j : Int) := by omega
    have p1 : (j : Int) < (N : Int) := by omega
    have p3 : IntKind.i64.wrap ((j : Int) + 1) = ((j + 1 : Nat) : Int) := by rw [IntWalk.i64_in _ (by omega)]; rfl
    obtain ⟨b, oo, z, ha, r1⟩ := hraw.rd (D := D) (by rw [dS, hC]; rfl) (by rw [dw, hC]; rfl) hj.1
    subst ha
    obtain ⟨k1, k2⟩ := and_le z 3 (by decide) (by decide)
    obtain ⟨k, hk3⟩ : ∃ k, andZ .i64 z 3 = k := ⟨_, rfl⟩
    have k1 : 0 ≤ k := by rw [← hk3]; exact k1
    have k2 : k ≤ 3 := by rw [← hk3]; exact k2
    have same : ∀ s, sub (slMo (some ⟨b, oo, none⟩) N c v n p (j + 1)) s → Run D [] 90 s (enMo n p) := fun s hs => hJ ⟨(j + 1, p), by simp only; omega, by simp only; omega, hp⟩ s (by show 21 - (j + 1) < 21 - j; omega) hs
    have next : ∀ q : Nat, q < 3 → q ∉ p → ∀ s, sub (slMo (some ⟨b, oo, none⟩) N c v n (p ++ [q]) (j + 1)) s → Run D [] 90 s (enMo n (p ++ [q])) := fun q hq hqp s hs => hJ ⟨(j + 1, p ++ [q]), by simp only; omega, by simp only; omega, mo_next p hp q hq hqp⟩ s (by show 21 - (j + 1) < 21 - j; omega) hs
    obtain ⟨W, hW⟩ : ∃ W, moWant n p = W := ⟨_, rfl⟩
    obtain ⟨L, hL⟩ : ∃ L, moLine p = L := ⟨_, rfl⟩
    rw [hL] at hll
    rw [hW] at hwl
    obtain ⟨u0, hu0⟩ : ∃ u, decide (0 ∈ p) = u := ⟨_, rfl⟩
    obtain ⟨u1, hu1⟩ : ∃ u, decide (1 ∈ p) = u := ⟨_, rfl⟩
    obtain ⟨u2, hu2⟩ : ∃ u, decide (2 ∈ p) = u := ⟨_, rfl⟩
    (refine VT_ok hctr (rs := res8) true 300 _ _ _ ?_; simp (config := { maxSteps := 1000000 }) only [VT, f00, f01, opG_t, opG_f, putG_t, putG_f, VC, appL, repZ, mkFs, newSl, resS, teS, resV, opK, putK, storeK, softS, eqC, eqCs, callS, moveS, loadS, nilS, binV, binS, unS, convS, faS, fldS, iaS, ixS, slS, lenS, buildS, fillS, extS, ifS, capsS, boundS, strLen, minS, maxS, pickS, plainS, oneS, onesS, cellsS, ev, evs, getS, ofVal, takeN, takeAt, layN, nthS, setN, snoc, lenN, unw, memN, trimS, TE.sv, argS, cxOf, lays, ↓reduceIte, reduceCtorEq, Value.oneCell', Nat.reduceEqDiff, Nat.reduceAdd, Nat.reduceLT, Nat.reduceBEq, Nat.reduceSub, Nat.reduceLeDiff, e00, e01, e02, e03, e04, e05, e06, e07, e08, e09, e10, e11, e12, e13, e14, e15, e16, e17, e18, e19, e20, e21, e22, e23, e24, e25, e26, e27, e28, e29, e30, e31, e32, e33, e34, cE, cOE, hcs, hap, killE, deadOf, rwE, cD, cO, consD, gdS, eqB, newC, mkV, storeC, firstN, snocAll, appAll, dropN, repN, putSl, slAt, allL, lvC, softC, ckD, ckO, hcallC, wfC, wfL, wfE, wfV, hP, hk, res8, kp8, moC, quC, shM, pmV, mqZ, mqS, cmE, flE, rwE, flatG, ecS, Cd.zero, List.length_cons, List.length_nil, List.flatMap_cons, List.flatMap_nil, List.append_nil, List.map_cons, List.map_nil, Nat.zero_add, Int.toNat_natCast, Int.toNat_zero, Nat.zero_mul, Nat.mul_one, Int.le_refl, Nat.reduceMul, slMo, enMo, c1, c2, p0, p1, r1, hk3, hW, hL, hu0, hu1, hu2])
    have hkk : k = 0 ∨ k = 1 ∨ k = 2 ∨ k = 3 := by omega
    have ix := fun {c o : Nat} {x y : Operand} {dst : Option Nat} {ty : TypeId} {pos : String} {af : Array Edge} {all r : List Oper} {sl : List (Nat × SV)} {en : List EN} {kk : List KI} (j : Int) (hx : ev sl x = some (.c (.p c o))) (hy : ev sl y = some (.c (.i .i64 j))) (h0 : 0 ≤ j) (h1 : j < ((4 : Nat) : Int)) => ixarr_op (C := D) (nt := 90) (k := kk) (dst := dst) (ty := ty) (pos := pos) (af := af) (all := all) (r := r) (sl := sl) (en := en) (n := 4) (e := 4) (kd := .i64) (j := j) 1 (by rw [hP]; exact Tryz.underlying48) (by rw [hP]; exact hi') hz0 hx hy h0 h1
    rcases hkk with rfl | rfl | rfl | rfl
    · refine ix 0 rfl rfl (by decide) (by decide) (by simp) ?_
      cases u0 with
      | true =>
        (refine VT_ok hctr (rs := res8) true 300 _ _ _ ?_; simp (config := { maxSteps := 1000000 }) only [VT, f00, f01, opG_t, opG_f, putG_t, putG_f, VC, appL, repZ, mkFs, newSl, resS, teS, resV, opK, putK, storeK, softS, eqC, eqCs, callS, moveS, loadS, nilS, binV, binS, unS, convS, faS, fldS, iaS, ixS, slS, lenS, buildS, fillS, extS, ifS, capsS, boundS, strLen, minS, maxS, pickS, plainS, oneS, onesS, cellsS, ev, evs, getS, ofVal, takeN, takeAt, layN, nthS, setN, snoc, lenN, unw, memN, trimS, TE.sv, argS, cxOf, lays, ↓reduceIte, reduceCtorEq, Value.oneCell', Nat.reduceEqDiff, Nat.reduceAdd, Nat.reduceLT, Nat.reduceBEq, Nat.reduceSub, Nat.reduceLeDiff, e00, e01, e02, e03, e04, e05, e06, e07, e08, e09, e10, e11, e12, e13, e14, e15, e16, e17, e18, e19, e20, e21, e22, e23, e24, e25, e26, e27, e28, e29, e30, e31, e32, e33, e34, cE, cOE, hcs, hap, killE, deadOf, rwE, cD, cO, consD, gdS, eqB, newC, mkV, storeC, firstN, snocAll, appAll, dropN, repN, putSl, slAt, allL, lvC, softC, ckD, ckO, hcallC, wfC, wfL, wfE, wfV, hP, hk, res8, kp8, moC, quC, shM, pmV, mqZ, mqS, cmE, flE, rwE, flatG, ecS, Cd.zero, List.length_cons, List.length_nil, List.flatMap_cons, List.flatMap_nil, List.append_nil, List.map_cons, List.map_nil, Nat.zero_add, Int.toNat_natCast, Int.toNat_zero, Nat.zero_mul, Nat.mul_one, Int.le_refl, Nat.reduceMul, p3, Nat.reduceAdd, Int.reduceToNat, Nat.add_zero])
        have h := fun s hs => same s hs
        simp only [slMo, enMo, hW, hL, hu0, hu1, hu2] at h
        exact h _ (sub_mk ⟨rfl, rfl, rfl, rfl, rfl, rfl, rfl, rfl, rfl, trivial⟩)
      | false =>
        (refine VT_ok hctr (rs := res8) true 300 _ _ _ ?_; simp (config := { maxSteps := 1000000 }) only [VT, f00, f01, opG_t, opG_f, putG_t, putG_f, VC, appL, repZ, mkFs, newSl, resS, teS, resV, opK, putK, storeK, softS, eqC, eqCs, callS, moveS, loadS, nilS, binV, binS, unS, convS, faS, fldS, iaS, ixS, slS, lenS, buildS, fillS, extS, ifS, capsS, boundS, strLen, minS, maxS, pickS, plainS, oneS, onesS, cellsS, ev, evs, getS, ofVal, takeN, takeAt, layN, nthS, setN, snoc, lenN, unw, memN, trimS, TE.sv, argS, cxOf, lays, ↓reduceIte, reduceCtorEq, Value.oneCell', Nat.reduceEqDiff, Nat.reduceAdd, Nat.reduceLT, Nat.reduceBEq, Nat.reduceSub, Nat.reduceLeDiff, e00, e01, e02, e03, e04, e05, e06, e07, e08, e09, e10, e11, e12, e13, e14, e15, e16, e17, e18, e19, e20, e21, e22, e23, e24, e25, e26, e27, e28, e29, e30, e31, e32, e33, e34, cE, cOE, hcs, hap, killE, deadOf, rwE, cD, cO, consD, gdS, eqB, newC, mkV, storeC, firstN, snocAll, appAll, dropN, repN, putSl, slAt, allL, lvC, softC, ckD, ckO, hcallC, wfC, wfL, wfE, wfV, hP, hk, res8, kp8, moC, quC, shM, pmV, mqZ, mqS, cmE, flE, rwE, flatG, ecS, Cd.zero, List.length_cons, List.length_nil, List.flatMap_cons, List.flatMap_nil, List.append_nil, List.map_cons, List.map_nil, Nat.zero_add, Int.toNat_natCast, Int.toNat_zero, Nat.zero_mul, Nat.mul_one, Int.le_refl, Nat.reduceMul, p3, Nat.reduceAdd, Int.reduceToNat, Nat.add_zero])
        refine ix 0 rfl rfl (by decide) (by decide) (by simp) ?_
        (refine VT_ok hctr (rs := res8) true 300 _ _ _ ?_; simp (config := { maxSteps := 1000000 }) only [VT, f00, f01, opG_t, opG_f, putG_t, putG_f, VC, appL, repZ, mkFs, newSl, resS, teS, resV, opK, putK, storeK, softS, eqC, eqCs, callS, moveS, loadS, nilS, binV, binS, unS, convS, faS, fldS, iaS, ixS, slS, lenS, buildS, fillS, extS, ifS, capsS, boundS, strLen, minS, maxS, pickS, plainS, oneS, onesS, cellsS, ev, evs, getS, ofVal, takeN, takeAt, layN, nthS, setN, snoc, lenN, unw, memN, trimS, TE.sv, argS, cxOf, lays, ↓reduceIte, reduceCtorEq, Value.oneCell', Nat.reduceEqDiff, Nat.reduceAdd, Nat.reduceLT, Nat.reduceBEq, Nat.reduceSub, Nat.reduceLeDiff, e00, e01, e02, e03, e04, e05, e06, e07, e08, e09, e10, e11, e12, e13, e14, e15, e16, e17, e18, e19, e20, e21, e22, e23, e24, e25, e26, e27, e28, e29, e30, e31, e32, e33, e34, cE, cOE, hcs, hap, killE, deadOf, rwE, cD, cO, consD, gdS, eqB, newC, mkV, storeC, firstN, snocAll, appAll, dropN, repN, putSl, slAt, allL, lvC, softC, ckD, ckO, hcallC, wfC, wfL, wfE, wfV, hP, hk, res8, kp8, moC, quC, shM, pmV, mqZ, mqS, cmE, flE, rwE, flatG, ecS, Cd.zero, List.length_cons, List.length_nil, List.flatMap_cons, List.flatMap_nil, List.append_nil, List.map_cons, List.map_nil, Nat.zero_add, Int.toNat_natCast, Int.toNat_zero, Nat.zero_mul, Nat.mul_one, Int.le_refl, Nat.reduceMul, p3, Nat.reduceAdd, Int.reduceToNat, Nat.add_zero])
        have hqp : 0 ∉ p := by simpa using hu0
        have m0 : decide (0 ∈ p ++ [0]) = true := by simp
        have m1 : decide (1 ∈ p ++ [0]) = u1 := by rw [← hu1]; simp
        have m2 : decide (2 ∈ p ++ [0]) = u2 := by rw [← hu2]; simp
        have h := fun s hs => next 0 (by decide) hqp s hs
        simp only [slMo, enMo, moLine_snoc, moWant_snoc, moFlag, moTold, hW, hL, m0, m1, m2] at h
        repeat (refine ⟨by first | omega | decide | (simp only [List.length_append, List.length_cons, List.length_nil]; omega), ?_⟩)
        exact h _ (sub_mk ⟨rfl, rfl, rfl, rfl, rfl, rfl, rfl, rfl, rfl, trivial⟩)
    · refine ix 1 rfl rfl (by decide) (by decide) (by simp) ?_
      cases u1 with
      | true =>
        (refine VT_ok hctr (rs := res8) true 300 _ _ _ ?_; simp (config := { maxSteps := 1000000 }) only [VT, f00, f01, opG_t, opG_f, putG_t, putG_f, VC, appL, repZ, mkFs, newSl, resS, teS, resV, opK, putK, storeK, softS, eqC, eqCs, callS, moveS, loadS, nilS, binV, binS, unS, convS, faS, fldS, iaS, ixS, slS, lenS, buildS, fillS, extS, ifS, capsS, boundS, strLen, minS, maxS, pickS, plainS, oneS, onesS, cellsS, ev, evs, getS, ofVal, takeN, takeAt, layN, nthS, setN, snoc, lenN, unw, memN, trimS, TE.sv, argS, cxOf, lays, ↓reduceIte, reduceCtorEq, Value.oneCell', Nat.reduceEqDiff, Nat.reduceAdd, Nat.reduceLT, Nat.reduceBEq, Nat.reduceSub, Nat.reduceLeDiff, e00, e01, e02, e03, e04, e05, e06, e07, e08, e09, e10, e11, e12, e13, e14, e15, e16, e17, e18, e19, e20, e21, e22, e23, e24, e25, e26, e27, e28, e29, e30, e31, e32, e33, e34, cE, cOE, hcs, hap, killE, deadOf, rwE, cD, cO, consD, gdS, eqB, newC, mkV, storeC, firstN, snocAll, appAll, dropN, repN, putSl, slAt, allL, lvC, softC, ckD, ckO, hcallC, wfC, wfL, wfE, wfV, hP, hk, res8, kp8, moC, quC, shM, pmV, mqZ, mqS, cmE, flE, rwE, flatG, ecS, Cd.zero, List.length_cons, List.length_nil, List.flatMap_cons, List.flatMap_nil, List.append_nil, List.map_cons, List.map_nil, Nat.zero_add, Int.toNat_natCast, Int.toNat_zero, Nat.zero_mul, Nat.mul_one, Int.le_refl, Nat.reduceMul, p3, Nat.reduceAdd, Int.reduceToNat, Nat.add_zero])
        have h := fun s hs => same s hs
        simp only [slMo, enMo, hW, hL, hu0, hu1, hu2] at h
        exact h _ (sub_mk ⟨rfl, rfl, rfl, rfl, rfl, rfl, rfl, rfl, rfl, trivial⟩)
      | false =>
        (refine VT_ok hctr (rs := res8) true 300 _ _ _ ?_; simp (config := { maxSteps := 1000000 }) only [VT, f00, f01, opG_t, opG_f, putG_t, putG_f, VC, appL, repZ, mkFs, newSl, resS, teS, resV, opK, putK, storeK, softS, eqC, eqCs, callS, moveS, loadS, nilS, binV, binS, unS, convS, faS, fldS, iaS, ixS, slS, lenS, buildS, fillS, extS, ifS, capsS, boundS, strLen, minS, maxS, pickS, plainS, oneS, onesS, cellsS, ev, evs, getS, ofVal, takeN, takeAt, layN, nthS, setN, snoc, lenN, unw, memN, trimS, TE.sv, argS, cxOf, lays, ↓reduceIte, reduceCtorEq, Value.oneCell', Nat.reduceEqDiff, Nat.reduceAdd, Nat.reduceLT, Nat.reduceBEq, Nat.reduceSub, Nat.reduceLeDiff, e00, e01, e02, e03, e04, e05, e06, e07, e08, e09, e10, e11, e12, e13, e14, e15, e16, e17, e18, e19, e20, e21, e22, e23, e24, e25, e26, e27, e28, e29, e30, e31, e32, e33, e34, cE, cOE, hcs, hap, killE, deadOf, rwE, cD, cO, consD, gdS, eqB, newC, mkV, storeC, firstN, snocAll, appAll, dropN, repN, putSl, slAt, allL, lvC, softC, ckD, ckO, hcallC, wfC, wfL, wfE, wfV, hP, hk, res8, kp8, moC, quC, shM, pmV, mqZ, mqS, cmE, flE, rwE, flatG, ecS, Cd.zero, List.length_cons, List.length_nil, List.flatMap_cons, List.flatMap_nil, List.append_nil, List.map_cons, List.map_nil, Nat.zero_add, Int.toNat_natCast, Int.toNat_zero, Nat.zero_mul, Nat.mul_one, Int.le_refl, Nat.reduceMul, p3, Nat.reduceAdd, Int.reduceToNat, Nat.add_zero])
        refine ix 1 rfl rfl (by decide) (by decide) (by simp) ?_
        (refine VT_ok hctr (rs := res8) true 300 _ _ _ ?_; simp (config := { maxSteps := 1000000 }) only [VT, f00, f01, opG_t, opG_f, putG_t, putG_f, VC, appL, repZ, mkFs, newSl, resS, teS, resV, opK, putK, storeK, softS, eqC, eqCs, callS, moveS, loadS, nilS, binV, binS, unS, convS, faS, fldS, iaS, ixS, slS, lenS, buildS, fillS, extS, ifS, capsS, boundS, strLen, minS, maxS, pickS, plainS, oneS, onesS, cellsS, ev, evs, getS, ofVal, takeN, takeAt, layN, nthS, setN, snoc, lenN, unw, memN, trimS, TE.sv, argS, cxOf, lays, ↓reduceIte, reduceCtorEq, Value.oneCell', Nat.reduceEqDiff, Nat.reduceAdd, Nat.reduceLT, Nat.reduceBEq, Nat.reduceSub, Nat.reduceLeDiff, e00, e01, e02, e03, e04, e05, e06, e07, e08, e09, e10, e11, e12, e13, e14, e15, e16, e17, e18, e19, e20, e21, e22, e23, e24, e25, e26, e27, e28, e29, e30, e31, e32, e33, e34, cE, cOE, hcs, hap, killE, deadOf, rwE, cD, cO, consD, gdS, eqB, newC, mkV, storeC, firstN, snocAll, appAll, dropN, repN, putSl, slAt, allL, lvC, softC, ckD, ckO, hcallC, wfC, wfL, wfE, wfV, hP, hk, res8, kp8, moC, quC, shM, pmV, mqZ, mqS, cmE, flE, rwE, flatG, ecS, Cd.zero, List.length_cons, List.length_nil, List.flatMap_cons, List.flatMap_nil, List.append_nil, List.map_cons, List.map_nil, Nat.zero_add, Int.toNat_natCast, Int.toNat_zero, Nat.zero_mul, Nat.mul_one, Int.le_refl, Nat.reduceMul, p3, Nat.reduceAdd, Int.reduceToNat, Nat.add_zero])
        have hqp : 1 ∉ p := by simpa using hu1
        have m0 : decide (0 ∈ p ++ [1]) = u0 := by rw [← hu0]; simp
        have m1 : decide (1 ∈ p ++ [1]) = true := by simp
        have m2 : decide (2 ∈ p ++ [1]) = u2 := by rw [← hu2]; simp
        have h := fun s hs => next 1 (by decide) hqp s hs
        simp only [slMo, enMo, moLine_snoc, moWant_snoc, moFlag, moTold, hW, hL, m0, m1, m2] at h
        repeat (refine ⟨by first | omega | decide | (simp only [List.length_append, List.length_cons, List.length_nil]; omega), ?_⟩)
        exact h _ (sub_mk ⟨rfl, rfl, rfl, rfl, rfl, rfl, rfl, rfl, rfl, trivial⟩)
    · refine ix 2 rfl rfl (by decide) (by decide) (by simp) ?_
      cases u2 with
      | true =>
        (refine VT_ok hctr (rs := res8) true 300 _ _ _ ?_; simp (config := { maxSteps := 1000000 }) only [VT, f00, f01, opG_t, opG_f, putG_t, putG_f, VC, appL, repZ, mkFs, newSl, resS, teS, resV, opK, putK, storeK, softS, eqC, eqCs, callS, moveS, loadS, nilS, binV, binS, unS, convS, faS, fldS, iaS, ixS, slS, lenS, buildS, fillS, extS, ifS, capsS, boundS, strLen, minS, maxS, pickS, plainS, oneS, onesS, cellsS, ev, evs, getS, ofVal, takeN, takeAt, layN, nthS, setN, snoc, lenN, unw, memN, trimS, TE.sv, argS, cxOf, lays, ↓reduceIte, reduceCtorEq, Value.oneCell', Nat.reduceEqDiff, Nat.reduceAdd, Nat.reduceLT, Nat.reduceBEq, Nat.reduceSub, Nat.reduceLeDiff, e00, e01, e02, e03, e04, e05, e06, e07, e08, e09, e10, e11, e12, e13, e14, e15, e16, e17, e18, e19, e20, e21, e22, e23, e24, e25, e26, e27, e28, e29, e30, e31, e32, e33, e34, cE, cOE, hcs, hap, killE, deadOf, rwE, cD, cO, consD, gdS, eqB, newC, mkV, storeC, firstN, snocAll, appAll, dropN, repN, putSl, slAt, allL, lvC, softC, ckD, ckO, hcallC, wfC, wfL, wfE, wfV, hP, hk, res8, kp8, moC, quC, shM, pmV, mqZ, mqS, cmE, flE, rwE, flatG, ecS, Cd.zero, List.length_cons, List.length_nil, List.flatMap_cons, List.flatMap_nil, List.append_nil, List.map_cons, List.map_nil, Nat.zero_add, Int.toNat_natCast, Int.toNat_zero, Nat.zero_mul, Nat.mul_one, Int.le_refl, Nat.reduceMul, p3, Nat.reduceAdd, Int.reduceToNat, Nat.add_zero])
        have h := fun s hs => same s hs
        simp only [slMo, enMo, hW, hL, hu0, hu1, hu2] at h
        exact h _ (sub_mk ⟨rfl, rfl, rfl, rfl, rfl, rfl, rfl, rfl, rfl, trivial⟩)
      | false =>
        (refine VT_ok hctr (rs := res8) true 300 _ _ _ ?_; simp (config := { maxSteps := 1000000 }) only [VT, f00, f01, opG_t, opG_f, putG_t, putG_f, VC, appL, repZ, mkFs, newSl, resS, teS, resV, opK, putK, storeK, softS, eqC, eqCs, callS, moveS, loadS, nilS, binV, binS, unS, convS, faS, fldS, iaS, ixS, slS, lenS, buildS, fillS, extS, ifS, capsS, boundS, strLen, minS, maxS, pickS, plainS, oneS, onesS, cellsS, ev, evs, getS, ofVal, takeN, takeAt, layN, nthS, setN, snoc, lenN, unw, memN, trimS, TE.sv, argS, cxOf, lays, ↓reduceIte, reduceCtorEq, Value.oneCell', Nat.reduceEqDiff, Nat.reduceAdd, Nat.reduceLT, Nat.reduceBEq, Nat.reduceSub, Nat.reduceLeDiff, e00, e01, e02, e03, e04, e05, e06, e07, e08, e09, e10, e11, e12, e13, e14, e15, e16, e17, e18, e19, e20, e21, e22, e23, e24, e25, e26, e27, e28, e29, e30, e31, e32, e33, e34, cE, cOE, hcs, hap, killE, deadOf, rwE, cD, cO, consD, gdS, eqB, newC, mkV, storeC, firstN, snocAll, appAll, dropN, repN, putSl, slAt, allL, lvC, softC, ckD, ckO, hcallC, wfC, wfL, wfE, wfV, hP, hk, res8, kp8, moC, quC, shM, pmV, mqZ, mqS, cmE, flE, rwE, flatG, ecS, Cd.zero, List.length_cons, List.length_nil, List.flatMap_cons, List.flatMap_nil, List.append_nil, List.map_cons, List.map_nil, Nat.zero_add, Int.toNat_natCast, Int.toNat_zero, Nat.zero_mul, Nat.mul_one, Int.le_refl, Nat.reduceMul, p3, Nat.reduceAdd, Int.reduceToNat, Nat.add_zero])
        refine ix 2 rfl rfl (by decide) (by decide) (by simp) ?_
        (refine VT_ok hctr (rs := res8) true 300 _ _ _ ?_; simp (config := { maxSteps := 1000000 }) only [VT, f00, f01, opG_t, opG_f, putG_t, putG_f, VC, appL, repZ, mkFs, newSl, resS, teS, resV, opK, putK, storeK, softS, eqC, eqCs, callS, moveS, loadS, nilS, binV, binS, unS, convS, faS, fldS, iaS, ixS, slS, lenS, buildS, fillS, extS, ifS, capsS, boundS, strLen, minS, maxS, pickS, plainS, oneS, onesS, cellsS, ev, evs, getS, ofVal, takeN, takeAt, layN, nthS, setN, snoc, lenN, unw, memN, trimS, TE.sv, argS, cxOf, lays, ↓reduceIte, reduceCtorEq, Value.oneCell', Nat.reduceEqDiff, Nat.reduceAdd, Nat.reduceLT, Nat.reduceBEq, Nat.reduceSub, Nat.reduceLeDiff, e00, e01, e02, e03, e04, e05, e06, e07, e08, e09, e10, e11, e12, e13, e14, e15, e16, e17, e18, e19, e20, e21, e22, e23, e24, e25, e26, e27, e28, e29, e30, e31, e32, e33, e34, cE, cOE, hcs, hap, killE, deadOf, rwE, cD, cO, consD, gdS, eqB, newC, mkV, storeC, firstN, snocAll, appAll, dropN, repN, putSl, slAt, allL, lvC, softC, ckD, ckO, hcallC, wfC, wfL, wfE, wfV, hP, hk, res8, kp8, moC, quC, shM, pmV, mqZ, mqS, cmE, flE, rwE, flatG, ecS, Cd.zero, List.length_cons, List.length_nil, List.flatMap_cons, List.flatMap_nil, List.append_nil, List.map_cons, List.map_nil, Nat.zero_add, Int.toNat_natCast, Int.toNat_zero, Nat.zero_mul, Nat.mul_one, Int.le_refl, Nat.reduceMul, p3, Nat.reduceAdd, Int.reduceToNat, Nat.add_zero])
        have hqp : 2 ∉ p := by simpa using hu2
        have m0 : decide (0 ∈ p ++ [2]) = u0 := by rw [← hu0]; simp
        have m1 : decide (1 ∈ p ++ [2]) = u1 := by rw [← hu1]; simp
        have m2 : decide (2 ∈ p ++ [2]) = true := by simp
        have h := fun s hs => next 2 (by decide) hqp s hs
        simp only [slMo, enMo, moLine_snoc, moWant_snoc, moFlag, moTold, hW, hL, m0, m1, m2] at h
        repeat (refine ⟨by first | omega | decide | (simp only [List.length_append, List.length_cons, List.length_nil]; omega), ?_⟩)
        exact h _ (sub_mk ⟨rfl, rfl, rfl, rfl, rfl, rfl, rfl, rfl, rfl, trivial⟩)
    · refine ix 3 rfl rfl (by decide) (by decide) (by simp) ?_
      (refine VT_ok hctr (rs := res8) true 300 _ _ _ ?_; simp (config := { maxSteps := 1000000 }) only [VT, f00, f01, opG_t, opG_f, putG_t, putG_f, VC, appL, repZ, mkFs, newSl, resS, teS, resV, opK, putK, storeK, softS, eqC, eqCs, callS, moveS, loadS, nilS, binV, binS, unS, convS, faS, fldS, iaS, ixS, slS, lenS, buildS, fillS, extS, ifS, capsS, boundS, strLen, minS, maxS, pickS, plainS, oneS, onesS, cellsS, ev, evs, getS, ofVal, takeN, takeAt, layN, nthS, setN, snoc, lenN, unw, memN, trimS, TE.sv, argS, cxOf, lays, ↓reduceIte, reduceCtorEq, Value.oneCell', Nat.reduceEqDiff, Nat.reduceAdd, Nat.reduceLT, Nat.reduceBEq, Nat.reduceSub, Nat.reduceLeDiff, e00, e01, e02, e03, e04, e05, e06, e07, e08, e09, e10, e11, e12, e13, e14, e15, e16, e17, e18, e19, e20, e21, e22, e23, e24, e25, e26, e27, e28, e29, e30, e31, e32, e33, e34, cE, cOE, hcs, hap, killE, deadOf, rwE, cD, cO, consD, gdS, eqB, newC, mkV, storeC, firstN, snocAll, appAll, dropN, repN, putSl, slAt, allL, lvC, softC, ckD, ckO, hcallC, wfC, wfL, wfE, wfV, hP, hk, res8, kp8, moC, quC, shM, pmV, mqZ, mqS, cmE, flE, rwE, flatG, ecS, Cd.zero, List.length_cons, List.length_nil, List.flatMap_cons, List.flatMap_nil, List.append_nil, List.map_cons, List.map_nil, Nat.zero_add, Int.toNat_natCast, Int.toNat_zero, Nat.zero_mul, Nat.mul_one, Int.le_refl, Nat.reduceMul, p3, Nat.reduceAdd, Int.reduceToNat, Nat.add_zero])
      have h := fun s hs => same s hs
      simp only [slMo, enMo, hW, hL, hu0, hu1, hu2] at h
      exact h _ (sub_mk ⟨rfl, rfl, rfl, rfl, rfl, rfl, rfl, rfl, rfl, trivial⟩)
  · have ex : (decide ((j : Int) < (N : Int)) = false) ∨ (decide ((j : Int) < (N : Int)) = true ∧ decide ((j : Int) < 20) = false) := by
      by_cases h1 : j < N
      · exact .inr ⟨decide_eq_true (by omega), decide_eq_false (by omega)⟩
      · exact .inl (decide_eq_false (by omega))
    rcases ex with c1 | ⟨c1, c2⟩
    · (refine VT_ok hctr (rs := res8) true 300 _ _ _ ?_; simp (config := { maxSteps := 1000000 }) only [VT, f00, f01, opG_t, opG_f, putG_t, putG_f, VC, appL, repZ, mkFs, newSl, resS, teS, resV, opK, putK, storeK, softS, eqC, eqCs, callS, moveS, loadS, nilS, binV, binS, unS, convS, faS, fldS, iaS, ixS, slS, lenS, buildS, fillS, extS, ifS, capsS, boundS, strLen, minS, maxS, pickS, plainS, oneS, onesS, cellsS, ev, evs, getS, ofVal, takeN, takeAt, layN, nthS, setN, snoc, lenN, unw, memN, trimS, TE.sv, argS, cxOf, lays, ↓reduceIte, reduceCtorEq, Value.oneCell', Nat.reduceEqDiff, Nat.reduceAdd, Nat.reduceLT, Nat.reduceBEq, Nat.reduceSub, Nat.reduceLeDiff, e00, e01, e02, e03, e04, e05, e06, e07, e08, e09, e10, e11, e12, e13, e14, e15, e16, e17, e18, e19, e20, e21, e22, e23, e24, e25, e26, e27, e28, e29, e30, e31, e32, e33, e34, cE, cOE, hcs, hap, killE, deadOf, rwE, cD, cO, consD, gdS, eqB, newC, mkV, storeC, firstN, snocAll, appAll, dropN, repN, putSl, slAt, allL, lvC, softC, ckD, ckO, hcallC, wfC, wfL, wfE, wfV, hP, hk, res8, kp8, moC, quC, shM, pmV, mqZ, mqS, cmE, flE, rwE, flatG, ecS, Cd.zero, List.length_cons, List.length_nil, List.flatMap_cons, List.flatMap_nil, List.append_nil, List.map_cons, List.map_nil, Nat.zero_add, Int.toNat_natCast, Int.toNat_zero, Nat.zero_mul, Nat.mul_one, Int.le_refl, Nat.reduceMul, slMo, enMo, c1])
      refine hX rfl rfl ?_
      have hP := hP0; have hk := hk0; have hctr := hctr0
      obtain ⟨G, hG⟩ : ∃ G, [98] :: p.map moFlag = G := ⟨_, rfl⟩
      have hmr := mo_read p hp
      have hrq : moReq p = ⟨1, [{ Cd.zero with op := 1, recache := -1, key := [97] }], false, [], 0, false, m_mg, G, [89, 81, 61, 61]⟩ := by rw [← hG]; rfl
      have hto := mo_told ⟨[97], 0, v, 0, 0, 0, false, false⟩ 5 p hp
      rw [hrq] at hmr
      have hto : mReply ⟨1, [], false, [], 0, false, m_mg, G, [89, 81, 61, 61]⟩ ⟨1, ⟨[97], 0, v, 0, 0, 0, false, false⟩, 0, true, true, false⟩ 5 = moWant n p ++ [32, 87, 32, 88, 13, 10] := by
        rw [hrq] at hto
        rw [← hn]; exact hto
      have hok := mo_ok v (by omega) p hp
      rw [hG] at hok
      have u1 : (((1 : Nat) : Int) != 1) = false := rfl
      have u2 : (0 : Int) < ((1 : Nat) : Int) := by decide
      have z1 : ([97] == ([97] : List UInt8)) = true := rfl
      (refine VT_ok hctr (rs := res8) true 300 _ _ _ ?_; simp (config := { maxSteps := 1000000 }) only [VT, f00, f01, opG_t, opG_f, putG_t, putG_f, VC, appL, repZ, mkFs, newSl, resS, teS, resV, opK, putK, storeK, softS, eqC, eqCs, callS, moveS, loadS, nilS, binV, binS, unS, convS, faS, fldS, iaS, ixS, slS, lenS, buildS, fillS, extS, ifS, capsS, boundS, strLen, minS, maxS, pickS, plainS, oneS, onesS, cellsS, ev, evs, getS, ofVal, takeN, takeAt, layN, nthS, setN, snoc, lenN, unw, memN, trimS, TE.sv, argS, cxOf, lays, ↓reduceIte, reduceCtorEq, Value.oneCell', Nat.reduceEqDiff, Nat.reduceAdd, Nat.reduceLT, Nat.reduceBEq, Nat.reduceSub, Nat.reduceLeDiff, e00, e01, e02, e03, e04, e05, e06, e07, e08, e09, e10, e11, e12, e13, e14, e15, e16, e17, e18, e19, e20, e21, e22, e23, e24, e25, e26, e27, e28, e29, e30, e31, e32, e33, e34, cE, cOE, hcs, hap, killE, deadOf, rwE, cD, cO, consD, gdS, eqB, newC, mkV, storeC, firstN, snocAll, appAll, dropN, repN, putSl, slAt, allL, lvC, softC, ckD, ckO, hcallC, wfC, wfL, wfE, wfV, hP, hk, res8, kp8, moC, quC, shM, pmV, mqZ, mqS, cmE, flE, rwE, flatG, ecS, Cd.zero, List.length_cons, List.length_nil, List.flatMap_cons, List.flatMap_nil, List.append_nil, List.map_cons, List.map_nil, Nat.zero_add, Int.toNat_natCast, Int.toNat_zero, Nat.zero_mul, Nat.mul_one, Int.le_refl, Nat.reduceMul, slMo, enMo])
      repeat (refine ⟨by first | omega | (simp only [List.length_append, List.length_cons, List.length_nil]; omega), ?_⟩)
      refine Run_mparse _ hmr (by simp only [List.length_append, List.length_cons, List.length_nil]; omega) hP hE (by rw [hn0]; exact Nat.zero_le _) rfl (by simp) ?_
      (refine VT_ok hctr (rs := res8) true 300 _ _ _ ?_; simp (config := { maxSteps := 1000000 }) only [VT, f00, f01, opG_t, opG_f, putG_t, putG_f, VC, appL, repZ, mkFs, newSl, resS, teS, resV, opK, putK, storeK, softS, eqC, eqCs, callS, moveS, loadS, nilS, binV, binS, unS, convS, faS, fldS, iaS, ixS, slS, lenS, buildS, fillS, extS, ifS, capsS, boundS, strLen, minS, maxS, pickS, plainS, oneS, onesS, cellsS, ev, evs, getS, ofVal, takeN, takeAt, layN, nthS, setN, snoc, lenN, unw, memN, trimS, TE.sv, argS, cxOf, lays, ↓reduceIte, reduceCtorEq, Value.oneCell', Nat.reduceEqDiff, Nat.reduceAdd, Nat.reduceLT, Nat.reduceBEq, Nat.reduceSub, Nat.reduceLeDiff, e00, e01, e02, e03, e04, e05, e06, e07, e08, e09, e10, e11, e12, e13, e14, e15, e16, e17, e18, e19, e20, e21, e22, e23, e24, e25, e26, e27, e28, e29, e30, e31, e32, e33, e34, cE, cOE, hcs, hap, killE, deadOf, rwE, cD, cO, consD, gdS, eqB, newC, mkV, storeC, firstN, snocAll, appAll, dropN, repN, putSl, slAt, allL, lvC, softC, ckD, ckO, hcallC, wfC, wfL, wfE, wfV, hP, hk, res8, kp8, moC, quC, shM, pmV, mqZ, mqS, cmE, flE, rwE, flatG, ecS, Cd.zero, List.length_cons, List.length_nil, List.flatMap_cons, List.flatMap_nil, List.append_nil, List.map_cons, List.map_nil, Nat.zero_add, Int.toNat_natCast, Int.toNat_zero, Nat.zero_mul, Nat.mul_one, Int.le_refl, Nat.reduceMul, slMo, enMo, u1, u2, z1, rowRpl, strsOf_map, hto, hok, beq_self_eq_true, Bool.not_true, List.length_map])
      repeat (refine ⟨by first | omega | (simp only [List.length_append, List.length_cons, List.length_nil]; omega), ?_⟩)
      exact fin _
    · (refine VT_ok hctr (rs := res8) true 300 _ _ _ ?_; simp (config := { maxSteps := 1000000 }) only [VT, f00, f01, opG_t, opG_f, putG_t, putG_f, VC, appL, repZ, mkFs, newSl, resS, teS, resV, opK, putK, storeK, softS, eqC, eqCs, callS, moveS, loadS, nilS, binV, binS, unS, convS, faS, fldS, iaS, ixS, slS, lenS, buildS, fillS, extS, ifS, capsS, boundS, strLen, minS, maxS, pickS, plainS, oneS, onesS, cellsS, ev, evs, getS, ofVal, takeN, takeAt, layN, nthS, setN, snoc, lenN, unw, memN, trimS, TE.sv, argS, cxOf, lays, ↓reduceIte, reduceCtorEq, Value.oneCell', Nat.reduceEqDiff, Nat.reduceAdd, Nat.reduceLT, Nat.reduceBEq, Nat.reduceSub, Nat.reduceLeDiff, e00, e01, e02, e03, e04, e05, e06, e07, e08, e09, e10, e11, e12, e13, e14, e15, e16, e17, e18, e19, e20, e21, e22, e23, e24, e25, e26, e27, e28, e29, e30, e31, e32, e33, e34, cE, cOE, hcs, hap, killE, deadOf, rwE, cD, cO, consD, gdS, eqB, newC, mkV, storeC, firstN, snocAll, appAll, dropN, repN, putSl, slAt, allL, lvC, softC, ckD, ckO, hcallC, wfC, wfL, wfE, wfV, hP, hk, res8, kp8, moC, quC, shM, pmV, mqZ, mqS, cmE, flE, rwE, flatG, ecS, Cd.zero, List.length_cons, List.length_nil, List.flatMap_cons, List.flatMap_nil, List.append_nil, List.map_cons, List.map_nil, Nat.zero_add, Int.toNat_natCast, Int.toNat_zero, Nat.zero_mul, Nat.mul_one, Int.le_refl, Nat.reduceMul, slMo, enMo, c1, c2])
      refine hX rfl rfl ?_
      have hP := hP0; have hk := hk0; have hctr := hctr0
      obtain ⟨G, hG⟩ : ∃ G, [98] :: p.map moFlag = G := ⟨_, rfl⟩
      have hmr := mo_read p hp
      have hrq : moReq p = ⟨1, [{ Cd.zero with op := 1, recache := -1, key := [97] }], false, [], 0, false, m_mg, G, [89, 81, 61, 61]⟩ := by rw [← hG]; rfl
      have hto := mo_told ⟨[97], 0, v, 0, 0, 0, false, false⟩ 5 p hp
      rw [hrq] at hmr
      have hto : mReply ⟨1, [], false, [], 0, false, m_mg, G, [89, 81, 61, 61]⟩ ⟨1, ⟨[97], 0, v, 0, 0, 0, false, false⟩, 0, true, true, false⟩ 5 = moWant n p ++ [32, 87, 32, 88, 13, 10] := by
        rw [hrq] at hto
        rw [← hn]; exact hto
      have hok := mo_ok v (by omega) p hp
      rw [hG] at hok
      have u1 : (((1 : Nat) : Int) != 1) = false := rfl
      have u2 : (0 : Int) < ((1 : Nat) : Int) := by decide
      have z1 : ([97] == ([97] : List UInt8)) = true := rfl
      (refine VT_ok hctr (rs := res8) true 300 _ _ _ ?_; simp (config := { maxSteps := 1000000 }) only [VT, f00, f01, opG_t, opG_f, putG_t, putG_f, VC, appL, repZ, mkFs, newSl, resS, teS, resV, opK, putK, storeK, softS, eqC, eqCs, callS, moveS, loadS, nilS, binV, binS, unS, convS, faS, fldS, iaS, ixS, slS, lenS, buildS, fillS, extS, ifS, capsS, boundS, strLen, minS, maxS, pickS, plainS, oneS, onesS, cellsS, ev, evs, getS, ofVal, takeN, takeAt, layN, nthS, setN, snoc, lenN, unw, memN, trimS, TE.sv, argS, cxOf, lays, ↓reduceIte, reduceCtorEq, Value.oneCell', Nat.reduceEqDiff, Nat.reduceAdd, Nat.reduceLT, Nat.reduceBEq, Nat.reduceSub, Nat.reduceLeDiff, e00, e01, e02, e03, e04, e05, e06, e07, e08, e09, e10, e11, e12, e13, e14, e15, e16, e17, e18, e19, e20, e21, e22, e23, e24, e25, e26, e27, e28, e29, e30, e31, e32, e33, e34, cE, cOE, hcs, hap, killE, deadOf, rwE, cD, cO, consD, gdS, eqB, newC, mkV, storeC, firstN, snocAll, appAll, dropN, repN, putSl, slAt, allL, lvC, softC, ckD, ckO, hcallC, wfC, wfL, wfE, wfV, hP, hk, res8, kp8, moC, quC, shM, pmV, mqZ, mqS, cmE, flE, rwE, flatG, ecS, Cd.zero, List.length_cons, List.length_nil, List.flatMap_cons, List.flatMap_nil, List.append_nil, List.map_cons, List.map_nil, Nat.zero_add, Int.toNat_natCast, Int.toNat_zero, Nat.zero_mul, Nat.mul_one, Int.le_refl, Nat.reduceMul, slMo, enMo])
      repeat (refine ⟨by first | omega | (simp only [List.length_append, List.length_cons, List.length_nil]; omega), ?_⟩)
      refine Run_mparse _ hmr (by simp only [List.length_append, List.length_cons, List.length_nil]; omega) hP hE (by rw [hn0]; exact Nat.zero_le _) rfl (by simp) ?_
      (refine VT_ok hctr (rs := res8) true 300 _ _ _ ?_; simp (config := { maxSteps := 1000000 }) only [VT, f00, f01, opG_t, opG_f, putG_t, putG_f, VC, appL, repZ, mkFs, newSl, resS, teS, resV, opK, putK, storeK, softS, eqC, eqCs, callS, moveS, loadS, nilS, binV, binS, unS, convS, faS, fldS, iaS, ixS, slS, lenS, buildS, fillS, extS, ifS, capsS, boundS, strLen, minS, maxS, pickS, plainS, oneS, onesS, cellsS, ev, evs, getS, ofVal, takeN, takeAt, layN, nthS, setN, snoc, lenN, unw, memN, trimS, TE.sv, argS, cxOf, lays, ↓reduceIte, reduceCtorEq, Value.oneCell', Nat.reduceEqDiff, Nat.reduceAdd, Nat.reduceLT, Nat.reduceBEq, Nat.reduceSub, Nat.reduceLeDiff, e00, e01, e02, e03, e04, e05, e06, e07, e08, e09, e10, e11, e12, e13, e14, e15, e16, e17, e18, e19, e20, e21, e22, e23, e24, e25, e26, e27, e28, e29, e30, e31, e32, e33, e34, cE, cOE, hcs, hap, killE, deadOf, rwE, cD, cO, consD, gdS, eqB, newC, mkV, storeC, firstN, snocAll, appAll, dropN, repN, putSl, slAt, allL, lvC, softC, ckD, ckO, hcallC, wfC, wfL, wfE, wfV, hP, hk, res8, kp8, moC, quC, shM, pmV, mqZ, mqS, cmE, flE, rwE, flatG, ecS, Cd.zero, List.length_cons, List.length_nil, List.flatMap_cons, List.flatMap_nil, List.append_nil, List.map_cons, List.map_nil, Nat.zero_add, Int.toNat_natCast, Int.toNat_zero, Nat.zero_mul, Nat.mul_one, Int.le_refl, Nat.reduceMul, slMo, enMo, u1, u2, z1, rowRpl, strsOf_map, hto, hok, beq_self_eq_true, Bool.not_true, List.length_map])
      repeat (refine ⟨by first | omega | (simp only [List.length_append, List.length_cons, List.length_nil]; omega), ?_⟩)
      exact fin _
end Go.Proofs.YtlaagebdbcmckaaGreatDoor
