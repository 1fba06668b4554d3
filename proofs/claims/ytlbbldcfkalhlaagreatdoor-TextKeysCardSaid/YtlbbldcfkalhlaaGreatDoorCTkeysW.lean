/- TextKeys, walked. -/
import Derived.Test.YtlbbldcfkalhlaaGreatDoorCTnumW
import Derived.Test.YtlbbldcfkalhlaaGreatDoorBC
import Derived.Test.YtlbbldcfkalhlaaGreatDoorCTget
import Derived.Test.YtlbbldcfkalhlaaGreatDoorBM
import Derived.Test.YtlbbldcfkalhlaaGreatDoorBB
namespace Go.Proofs.YtlbbldcfkalhlaaGreatDoor
set_option linter.unusedSimpArgs false
set_option linter.unusedVariables false
set_option linter.unusedSimpArgs false
set_option linter.unusedVariables false
set_option maxHeartbeats 8000000
open Go.RowKit
set_option maxRecDepth 100000

theorem infoStrK : (Tryz.prog.info? 9).map (fun i => (i.zero, i.size, i.bytes)) = some (some (.string ⟨#[]⟩), 1, 16) := by kernel_rfl
def rwK (ks : List (List UInt8)) : EN := rwE 9 1 ks.length (flatG (fun x => [SC.s x]) ks)
def slK (a : Option Addr) (n c : Nat) (tok bad : Bool) (j : Nat) (ks : List (List UInt8)) : List (Nat × SV) := [(10, .c (.i .i64 (j : Int))), (9, .c (.s (kJ tok ks))), (8, .c (.rw 0 ks.length)), (7, .c (.b true)), (6, .c (.b false)), (2, .c (.b bad)), (1, .c (.b tok)), (0, .c (.v (.slice a n c)))]
theorem flatS_den (ρ ρ' : Nat → RE) (ks : List (List UInt8)) : dens ρ (flatG (fun x => [SC.s x]) ks) = dens ρ' (flatG (fun x => [SC.s x]) ks) := by
  refine List.map_congr_left fun y hy => ?_
  simp only [flatG, List.mem_flatMap, List.mem_cons, List.not_mem_nil, or_false] at hy
  obtain ⟨_, _, rfl⟩ := hy; rfl
def slKx (tok bad : Bool) (ks : List (List UInt8)) : List (Nat × SV) := [(9, .c (.s (kJ tok ks))), (8, .c (.rw 0 ks.length)), (7, .c (.b true)), (6, .c (.b false)), (2, .c (.b bad)), (1, .c (.b tok))]
def slK2 (tok bad : Bool) (ks : List (List UInt8)) (m i : Nat) : List (Nat × SV) := [(13, .c (.i .i64 (i : Int))), (11, .c (.p 2 0)), (9, .c (.s (kJ tok ks))), (8, .c (.sl 0 0 ks.length m)), (7, .c (.b true)), (6, .c (.b false)), (2, .c (.b bad))]
def enK2 (tok : Bool) (ks : List (List UInt8)) (m : Nat) : List EN := [rwK ks, rwE 37 16 ks.length (flatG rcS (ks.map getKC)), ⟨(26, 0, whole), [.i .i64 1, .sl 1 0 ks.length m, .b false, .b tok, .s [], .s [], .i .i64 0, .b false, .s [], .v (.slice none 0 0), .s []], true⟩]
theorem rwK_app (ks : List (List UInt8)) (x : List UInt8) : rwE 9 1 (ks.length + 1) (flatG (fun x => [SC.s x]) ks ++ [.s x]) = rwK (ks ++ [x]) := by
  unfold rwK
  rw [flatG_app, flatG_one, List.length_append]; rfl
theorem keys_ff {w : World} {a : Option Addr} {n c : Nat} {ws : List (List UInt8)} (hraw : RawS w w.heap.size a ws) (hn : ws.length = n) (hc : n ≤ c) (h63 : n ≤ 9223372036854775807) (hl : ∀ x ∈ ws, x.length ≤ 9223372036854775807) (hE0 : EnvT w) :
    Calls Tryz.prog 5 #[.slice a n c, .bool false, .bool false] w fun e w' => e = .returned (.bool true) ∧ Below w.heap.size w w' := by
  refine calls_of_Run Tryz.func5 rfl kp5 (S := Non) (ρ := fun _ => reOf 0) (en := []) [.c (.v (.slice a n c)), .c (.b false), .c (.b false)] Tryz.ntmps5 (At.nil _ _ _) (by simp [SV.wf, SC.wf]) (by simp) ?_
  intro C hC hP hk
  have hE : ∀ w', Upd C.S C.w0 w' → EnvT w' := fun w' hu => by rw [hC] at hu; exact hE0.below hu.to_below
  have hctr := lwC_ok hP hE
  have hn0 : C.n0 = 0 := by rw [hC]; rfl
  have fin : ∀ en, Fin C res5 (.c (.b true)) en := fun en => Fin_ro (v := .c (.b true)) hC hres5 rfl trivial
  have hr : ∀ (k : Nat) x, ws[k]? = some x → ∃ b o, a = some ⟨b, o, none⟩ ∧ C.rd b (o + k) 1 = some [.s x] := fun k x hx => hraw.rd (D := C) (by rw [hC]; exact fun k hk => hk.elim) (by rw [hC]; rfl) hx
  (refine VT_ok hctr (rs := res5) true 300 _ _ _ ?_; simp (config := { maxSteps := 1000000 }) only [VT, f00, f01, opG_t, opG_f, putG_t, putG_f, VC, appL, repZ, mkFs, newSl, resS, teS, resV, opK, putK, storeK, softS, eqC, eqCs, callS, moveS, loadS, nilS, binV, binS, unS, convS, faS, fldS, iaS, ixS, slS, lenS, buildS, fillS, extS, ifS, capsS, boundS, strLen, minS, maxS, pickS, plainS, oneS, onesS, cellsS, ev, evs, getS, ofVal, takeN, takeAt, layN, nthS, setN, snoc, lenN, unw, memN, trimS, TE.sv, argS, cxOf, lays, ↓reduceIte, reduceCtorEq, Value.oneCell', Nat.reduceEqDiff, Nat.reduceAdd, Nat.reduceLT, Nat.reduceBEq, Nat.reduceSub, Nat.reduceLeDiff, e00, e01, e02, e03, e04, e05, e06, e07, e08, e09, e10, e11, e12, e13, e14, e15, e16, e17, e18, e19, e20, e21, e22, e23, e24, e25, e26, e27, e28, e29, e30, e31, e32, e33, e34, cE, cOE, hcs, hap, killE, deadOf, rwE, cD, cO, consD, gdS, eqB, newC, mkV, storeC, firstN, snocAll, appAll, dropN, repN, putSl, slAt, allL, lvC, softC, ckD, ckO, hcallC, wfC, wfL, wfE, wfV, hP, hk, res5, kp5, lwC, rowKeyB])
  refine Run_nilrowG true (en' := []) (sl' := slK a n c false false 0 []) (9, 0, rowP 1 0 0) rfl (fun _ => ⟨rfl, .inr ⟨rfl, rfl, rfl⟩⟩) (fun _ => by show ¬ (9 : Nat) = DEAD; decide) ?_ ?_ ?_
  · trivial
  · refine ⟨⟨⟨_, rfl, fun ρ h => rfl⟩, ?_⟩, ⟨⟨_, rfl, fun ρ h => rfl⟩, ?_⟩, ⟨⟨_, rfl, fun ρ h => ?_⟩, ?_⟩, ⟨⟨_, rfl, fun ρ h => rfl⟩, ?_⟩, ⟨⟨_, rfl, fun ρ h => rfl⟩, ?_⟩, ⟨⟨_, rfl, fun ρ h => rfl⟩, ?_⟩, ⟨⟨_, rfl, fun ρ h => rfl⟩, ?_⟩, ⟨⟨_, rfl, fun ρ h => rfl⟩, ?_⟩, trivial⟩
    case refine_3 => have h : (ρ 0).nl = some none := h; simp only [SV.den, SC.den, List.length_nil, rwOf_off h]
    all_goals simp [SV.wf, SC.wf, lenN]
  refine Run_loopE 0 (ι := { j : Nat // j ≤ n ∧ j ≤ 7 }) (κ := { j : Nat // j ≤ n ∧ j ≤ 7 }) (fun j => slK a n c false false j.1 (gkK ws j.1)) (fun j => [rwK (gkK ws j.1)]) (fun j => 7 - j.1) ⟨0, Nat.zero_le _, Nat.zero_le _⟩ (sub_mk ⟨rfl, rfl, rfl, rfl, rfl, rfl, rfl, rfl, trivial⟩) rfl (fun j => slKx false false (gkK ws j.1)) (fun j => [rwK (gkK ws j.1)]) rfl ?_ ?_
  rotate_left
  rintro ⟨j, hjn, hj7⟩ D dP dS dw dn dr dk ddf dPan dRet hX _ hJ
  have hP0 := hP; have hk0 := hk; have hctr0 := hctr
  have hP : D.P = Tryz.prog := by rw [dP]; exact hP0
  have hk : D.kp = kp5 := by rw [dk]; exact hk0
  have hctr : CtrOk D lwC := lwC_ok hP (by rw [dS, dw]; exact hE)
  show Run D _ _ (slK a n c false false j (gkK ws j)) [rwK (gkK ws j)]
  obtain ⟨ks, hks⟩ : ∃ ks, gkK ws j = ks := ⟨_, rfl⟩
  have hka := gkK_all ws j
  have hkl := gkK_len ws j
  rw [hks] at hka hkl ⊢
  have hjl := kJ_le (tokens := false) hka (by omega)
  by_cases hjm : j < n ∧ j < 7
  · obtain ⟨x, hx⟩ : ∃ x, ws[j]? = some x := ⟨_, List.getElem?_eq_getElem (by omega)⟩
    have c1 : decide ((j : Int) < ((n : Nat) : Int)) = true := decide_eq_true (by omega)
    have c2 : decide ((j : Int) < 7) = true := decide_eq_true (by omega)
    have p3 : IntKind.i64.wrap ((j : Int) + 1) = ((j + 1 : Nat) : Int) := by rw [IntWalk.i64_in _ (by omega)]; rfl
    have lx := hl x (List.mem_of_getElem? hx)
    have p0 : (0 : Int) ≤ (j : Int) := by omega
    have p1 : (j : Int) < ((n : Nat) : Int) := by omega
    obtain ⟨b0, oo, ha, hrx⟩ := hr j x hx
    subst ha
    have hrx : D.rd b0 (oo + j) 1 = some [.s x] := by rw [show D.rd = C.rd by unfold Cx.rd; rw [dS, dw]]; exact hrx
    cases hkb : keyB x with
    | false =>
      (refine VT_ok hctr (rs := res5) true 300 _ _ _ ?_; simp (config := { maxSteps := 1000000 }) only [VT, f00, f01, opG_t, opG_f, putG_t, putG_f, VC, appL, repZ, mkFs, newSl, resS, teS, resV, opK, putK, storeK, softS, eqC, eqCs, callS, moveS, loadS, nilS, binV, binS, unS, convS, faS, fldS, iaS, ixS, slS, lenS, buildS, fillS, extS, ifS, capsS, boundS, strLen, minS, maxS, pickS, plainS, oneS, onesS, cellsS, ev, evs, getS, ofVal, takeN, takeAt, layN, nthS, setN, snoc, lenN, unw, memN, trimS, TE.sv, argS, cxOf, lays, ↓reduceIte, reduceCtorEq, Value.oneCell', Nat.reduceEqDiff, Nat.reduceAdd, Nat.reduceLT, Nat.reduceBEq, Nat.reduceSub, Nat.reduceLeDiff, e00, e01, e02, e03, e04, e05, e06, e07, e08, e09, e10, e11, e12, e13, e14, e15, e16, e17, e18, e19, e20, e21, e22, e23, e24, e25, e26, e27, e28, e29, e30, e31, e32, e33, e34, cE, cOE, hcs, hap, killE, deadOf, rwE, cD, cO, consD, gdS, eqB, newC, mkV, storeC, firstN, snocAll, appAll, dropN, repN, putSl, slAt, allL, lvC, softC, ckD, ckO, hcallC, wfC, wfL, wfE, wfV, hP, hk, res5, kp5, slK, rwK, rwE, lwC, rowKeyB, c1, c2, p3, p0, p1, hrx, hkb, lx, Int.toNat_natCast, Nat.mul_one])
      have e1 : gkK ws (j + 1) = ks := by rw [gkK_no hx hkb, hks]
      have hJ' := fun s => hJ ⟨j + 1, by omega, by omega⟩ s (by show 7 - (j + 1) < 7 - j; omega)
      simp only [e1] at hJ'
      exact hJ' _ (sub_mk ⟨rfl, rfl, rfl, rfl, rfl, rfl, rfl, rfl, trivial⟩)
    | true =>
      (refine VT_ok hctr (rs := res5) true 300 _ _ _ ?_; simp (config := { maxSteps := 1000000 }) only [VT, f00, f01, opG_t, opG_f, putG_t, putG_f, VC, appL, repZ, mkFs, newSl, resS, teS, resV, opK, putK, storeK, softS, eqC, eqCs, callS, moveS, loadS, nilS, binV, binS, unS, convS, faS, fldS, iaS, ixS, slS, lenS, buildS, fillS, extS, ifS, capsS, boundS, strLen, minS, maxS, pickS, plainS, oneS, onesS, cellsS, ev, evs, getS, ofVal, takeN, takeAt, layN, nthS, setN, snoc, lenN, unw, memN, trimS, TE.sv, argS, cxOf, lays, ↓reduceIte, reduceCtorEq, Value.oneCell', Nat.reduceEqDiff, Nat.reduceAdd, Nat.reduceLT, Nat.reduceBEq, Nat.reduceSub, Nat.reduceLeDiff, e00, e01, e02, e03, e04, e05, e06, e07, e08, e09, e10, e11, e12, e13, e14, e15, e16, e17, e18, e19, e20, e21, e22, e23, e24, e25, e26, e27, e28, e29, e30, e31, e32, e33, e34, cE, cOE, hcs, hap, killE, deadOf, rwE, cD, cO, consD, gdS, eqB, newC, mkV, storeC, firstN, snocAll, appAll, dropN, repN, putSl, slAt, allL, lvC, softC, ckD, ckO, hcallC, wfC, wfL, wfE, wfV, hP, hk, res5, kp5, slK, rwK, rwE, lwC, rowKeyB, c1, c2, p3, p0, p1, hrx, hkb, lx, Int.toNat_natCast, Nat.mul_one])
      obtain ⟨i0, hi, hz0, hz1, hz2⟩ := info_parts infoStrK
      refine append_op (t := 24) (e := 9) (z := 1) (n := ks.length) (m := 1) (bts := 16) (X := .rw 0 ks.length) (Y := .sl 1 0 1 1) (cells := flatG (fun x => [SC.s x]) ks) (news := [.s x]) (o := some 0) (by rw [hP]; exact Tryz.underlying24) (by rw [hP]; exact hi) hz0 hz1 hz2 rfl (by decide) (by show ¬ (9 : Nat) = DEAD; decide) (.some rfl) rfl rfl (src_sl (L := 1) rfl rfl) rfl rfl (fun pr => by intro y hy; simp only [List.mem_cons, List.not_mem_nil, or_false] at hy; subst hy; trivial) (by omega) (by omega) (by rw [dn, hn0]; exact Nat.zero_le _) rfl (by simp) ?_
      rw [rwK_app]
      have kx := key_le hkb
      have hjs : kJ false ks ++ [32] ++ x = kJ false (gkK ws (j + 1)) := by rw [gkK_yes hx hkb, hks]; unfold kJ; rw [joinB_snoc]; simp
      (refine VT_ok hctr (rs := res5) true 300 _ _ _ ?_; simp (config := { maxSteps := 1000000 }) only [VT, f00, f01, opG_t, opG_f, putG_t, putG_f, VC, appL, repZ, mkFs, newSl, resS, teS, resV, opK, putK, storeK, softS, eqC, eqCs, callS, moveS, loadS, nilS, binV, binS, unS, convS, faS, fldS, iaS, ixS, slS, lenS, buildS, fillS, extS, ifS, capsS, boundS, strLen, minS, maxS, pickS, plainS, oneS, onesS, cellsS, ev, evs, getS, ofVal, takeN, takeAt, layN, nthS, setN, snoc, lenN, unw, memN, trimS, TE.sv, argS, cxOf, lays, ↓reduceIte, reduceCtorEq, Value.oneCell', Nat.reduceEqDiff, Nat.reduceAdd, Nat.reduceLT, Nat.reduceBEq, Nat.reduceSub, Nat.reduceLeDiff, e00, e01, e02, e03, e04, e05, e06, e07, e08, e09, e10, e11, e12, e13, e14, e15, e16, e17, e18, e19, e20, e21, e22, e23, e24, e25, e26, e27, e28, e29, e30, e31, e32, e33, e34, cE, cOE, hcs, hap, killE, deadOf, rwE, cD, cO, consD, gdS, eqB, newC, mkV, storeC, firstN, snocAll, appAll, dropN, repN, putSl, slAt, allL, lvC, softC, ckD, ckO, hcallC, wfC, wfL, wfE, wfV, hP, hk, res5, kp5, slK, lwC, rowKeyB, c1, c2, p3, p0, p1, hrx, hkb, lx, Int.toNat_natCast, Nat.mul_one, killE, deadOf, hjs])
      refine ⟨by omega, by rw [List.length_append]; simp only [List.length_cons, List.length_nil]; omega, ?_⟩
      have hk1 : gkK ws (j + 1) = ks ++ [x] := by rw [gkK_yes hx hkb, hks]
      have hJ' := hJ ⟨j + 1, by omega, by omega⟩ (slK (some ⟨b0, oo, none⟩) n c false false (j + 1) (gkK ws (j + 1))) (by show 7 - (j + 1) < 7 - j; omega) (fun d v h => h)
      rw [hk1] at hJ' ⊢
      refine Run_keepN (f := fun c => 2) (enK := [rwK (ks ++ [x])]) (slK := slK (some ⟨b0, oo, none⟩) n c false false (j + 1) (ks ++ [x])) ⟨fun q hq => ?_, ?_⟩ ?_ ?_ ?_ hJ'
      · exact absurd hq (by rw [dn, hn0]; exact Nat.not_lt_zero _)
      · rw [dn, hn0]; exact Nat.zero_le _
      · intro p q hp hq h
        have hp : p < 1 := hp
        have hq : q < 1 := hq
        omega
      · refine ⟨⟨_, rfl, fun ρ => ?_, ?_⟩, trivial⟩
        · exact flatS_den _ _ _
        · intro y hy
          have hy : y ∈ flatG (fun x => [SC.s x]) (ks ++ [x]) := hy
          simp only [flatG, List.mem_flatMap, List.mem_cons, List.not_mem_nil, or_false] at hy
          obtain ⟨_, _, rfl⟩ := hy; trivial
      · refine ⟨⟨?_, _, rfl, fun ρ => rfl⟩, ⟨?_, _, rfl, fun ρ => rfl⟩, ⟨?_, _, rfl, fun ρ => ?_⟩, ⟨?_, _, rfl, fun ρ => rfl⟩, ⟨?_, _, rfl, fun ρ => rfl⟩, ⟨?_, _, rfl, fun ρ => rfl⟩, ⟨?_, _, rfl, fun ρ => rfl⟩, ⟨?_, _, rfl, fun ρ => rfl⟩, trivial⟩
        all_goals simp [SV.wf, SC.wf, SV.den, SC.den]
  · have hx0 := hX ⟨j, hjn, hj7⟩
    simp only [hks] at hx0
    by_cases hjn' : j < n
    · have c1 : decide ((j : Int) < ((n : Nat) : Int)) = true := decide_eq_true (by omega)
      have c2 : decide ((j : Int) < 7) = false := decide_eq_false (by omega)
      (refine VT_ok hctr (rs := res5) true 300 _ _ _ ?_; simp (config := { maxSteps := 1000000 }) only [VT, f00, f01, opG_t, opG_f, putG_t, putG_f, VC, appL, repZ, mkFs, newSl, resS, teS, resV, opK, putK, storeK, softS, eqC, eqCs, callS, moveS, loadS, nilS, binV, binS, unS, convS, faS, fldS, iaS, ixS, slS, lenS, buildS, fillS, extS, ifS, capsS, boundS, strLen, minS, maxS, pickS, plainS, oneS, onesS, cellsS, ev, evs, getS, ofVal, takeN, takeAt, layN, nthS, setN, snoc, lenN, unw, memN, trimS, TE.sv, argS, cxOf, lays, ↓reduceIte, reduceCtorEq, Value.oneCell', Nat.reduceEqDiff, Nat.reduceAdd, Nat.reduceLT, Nat.reduceBEq, Nat.reduceSub, Nat.reduceLeDiff, e00, e01, e02, e03, e04, e05, e06, e07, e08, e09, e10, e11, e12, e13, e14, e15, e16, e17, e18, e19, e20, e21, e22, e23, e24, e25, e26, e27, e28, e29, e30, e31, e32, e33, e34, cE, cOE, hcs, hap, killE, deadOf, rwE, cD, cO, consD, gdS, eqB, newC, mkV, storeC, firstN, snocAll, appAll, dropN, repN, putSl, slAt, allL, lvC, softC, ckD, ckO, hcallC, wfC, wfL, wfE, wfV, hP, hk, res5, kp5, slK, rwK, rwE, lwC, rowKeyB, c1, c2])
      exact hx0 _ _ rfl (sub_mk ⟨rfl, rfl, rfl, rfl, rfl, rfl, trivial⟩)
    · have c1 : decide ((j : Int) < ((n : Nat) : Int)) = false := decide_eq_false (by omega)
      (refine VT_ok hctr (rs := res5) true 300 _ _ _ ?_; simp (config := { maxSteps := 1000000 }) only [VT, f00, f01, opG_t, opG_f, putG_t, putG_f, VC, appL, repZ, mkFs, newSl, resS, teS, resV, opK, putK, storeK, softS, eqC, eqCs, callS, moveS, loadS, nilS, binV, binS, unS, convS, faS, fldS, iaS, ixS, slS, lenS, buildS, fillS, extS, ifS, capsS, boundS, strLen, minS, maxS, pickS, plainS, oneS, onesS, cellsS, ev, evs, getS, ofVal, takeN, takeAt, layN, nthS, setN, snoc, lenN, unw, memN, trimS, TE.sv, argS, cxOf, lays, ↓reduceIte, reduceCtorEq, Value.oneCell', Nat.reduceEqDiff, Nat.reduceAdd, Nat.reduceLT, Nat.reduceBEq, Nat.reduceSub, Nat.reduceLeDiff, e00, e01, e02, e03, e04, e05, e06, e07, e08, e09, e10, e11, e12, e13, e14, e15, e16, e17, e18, e19, e20, e21, e22, e23, e24, e25, e26, e27, e28, e29, e30, e31, e32, e33, e34, cE, cOE, hcs, hap, killE, deadOf, rwE, cD, cO, consD, gdS, eqB, newC, mkV, storeC, firstN, snocAll, appAll, dropN, repN, putSl, slAt, allL, lvC, softC, ckD, ckO, hcallC, wfC, wfL, wfE, wfV, hP, hk, res5, kp5, slK, rwK, rwE, lwC, rowKeyB, c1])
      exact hx0 _ _ rfl (sub_mk ⟨rfl, rfl, rfl, rfl, rfl, rfl, trivial⟩)
  rintro ⟨j, hjn, hj7⟩
  show Run C _ _ (slKx false false (gkK ws j)) [rwK (gkK ws j)]
  have hka := gkK_all ws j
  have hkl := gkK_len ws j
  obtain ⟨ks, hks⟩ : ∃ ks, gkK ws j = ks := ⟨_, rfl⟩
  rw [hks] at hka hkl ⊢
  have hkl : ks.length ≤ 7 := by omega
  have hjl := kJ_le (tokens := false) hka hkl
  by_cases hne : ks = []
  · subst hne
    (refine VT_ok hctr (rs := res5) true 300 _ _ _ ?_; simp (config := { maxSteps := 1000000 }) only [VT, f00, f01, opG_t, opG_f, putG_t, putG_f, VC, appL, repZ, mkFs, newSl, resS, teS, resV, opK, putK, storeK, softS, eqC, eqCs, callS, moveS, loadS, nilS, binV, binS, unS, convS, faS, fldS, iaS, ixS, slS, lenS, buildS, fillS, extS, ifS, capsS, boundS, strLen, minS, maxS, pickS, plainS, oneS, onesS, cellsS, ev, evs, getS, ofVal, takeN, takeAt, layN, nthS, setN, snoc, lenN, unw, memN, trimS, TE.sv, argS, cxOf, lays, ↓reduceIte, reduceCtorEq, Value.oneCell', Nat.reduceEqDiff, Nat.reduceAdd, Nat.reduceLT, Nat.reduceBEq, Nat.reduceSub, Nat.reduceLeDiff, e00, e01, e02, e03, e04, e05, e06, e07, e08, e09, e10, e11, e12, e13, e14, e15, e16, e17, e18, e19, e20, e21, e22, e23, e24, e25, e26, e27, e28, e29, e30, e31, e32, e33, e34, cE, cOE, hcs, hap, killE, deadOf, rwE, cD, cO, consD, gdS, eqB, newC, mkV, storeC, firstN, snocAll, appAll, dropN, repN, putSl, slAt, allL, lvC, softC, ckD, ckO, hcallC, wfC, wfL, wfE, wfV, hP, hk, res5, kp5, slKx, rwK, rwE, lwC, rowKeyB])
    refine ⟨by omega, ?_⟩
    refine Run_parse _ (ps_nokeys false) (by simp only [List.length_append, List.length_cons, List.length_nil]; omega) hP hE (by rw [hn0]; exact Nat.zero_le _) rfl (by simp) ?_
    have z1 : (((0 : Nat) : Int) == 0) = true := rfl
    (refine VT_ok hctr (rs := res5) true 300 _ _ _ ?_; simp (config := { maxSteps := 1000000 }) only [VT, f00, f01, opG_t, opG_f, putG_t, putG_f, VC, appL, repZ, mkFs, newSl, resS, teS, resV, opK, putK, storeK, softS, eqC, eqCs, callS, moveS, loadS, nilS, binV, binS, unS, convS, faS, fldS, iaS, ixS, slS, lenS, buildS, fillS, extS, ifS, capsS, boundS, strLen, minS, maxS, pickS, plainS, oneS, onesS, cellsS, ev, evs, getS, ofVal, takeN, takeAt, layN, nthS, setN, snoc, lenN, unw, memN, trimS, TE.sv, argS, cxOf, lays, ↓reduceIte, reduceCtorEq, Value.oneCell', Nat.reduceEqDiff, Nat.reduceAdd, Nat.reduceLT, Nat.reduceBEq, Nat.reduceSub, Nat.reduceLeDiff, e00, e01, e02, e03, e04, e05, e06, e07, e08, e09, e10, e11, e12, e13, e14, e15, e16, e17, e18, e19, e20, e21, e22, e23, e24, e25, e26, e27, e28, e29, e30, e31, e32, e33, e34, cE, cOE, hcs, hap, killE, deadOf, rwE, cD, cO, consD, gdS, eqB, newC, mkV, storeC, firstN, snocAll, appAll, dropN, repN, putSl, slAt, allL, lvC, softC, ckD, ckO, hcallC, wfC, wfL, wfE, wfV, hP, hk, res5, kp5, lwC, rowKeyB, psV, psE, rqS, badR, f_unknown, z1, beq_self_eq_true])
    exact fin _
  · (refine VT_ok hctr (rs := res5) true 300 _ _ _ ?_; simp (config := { maxSteps := 1000000 }) only [VT, f00, f01, opG_t, opG_f, putG_t, putG_f, VC, appL, repZ, mkFs, newSl, resS, teS, resV, opK, putK, storeK, softS, eqC, eqCs, callS, moveS, loadS, nilS, binV, binS, unS, convS, faS, fldS, iaS, ixS, slS, lenS, buildS, fillS, extS, ifS, capsS, boundS, strLen, minS, maxS, pickS, plainS, oneS, onesS, cellsS, ev, evs, getS, ofVal, takeN, takeAt, layN, nthS, setN, snoc, lenN, unw, memN, trimS, TE.sv, argS, cxOf, lays, ↓reduceIte, reduceCtorEq, Value.oneCell', Nat.reduceEqDiff, Nat.reduceAdd, Nat.reduceLT, Nat.reduceBEq, Nat.reduceSub, Nat.reduceLeDiff, e00, e01, e02, e03, e04, e05, e06, e07, e08, e09, e10, e11, e12, e13, e14, e15, e16, e17, e18, e19, e20, e21, e22, e23, e24, e25, e26, e27, e28, e29, e30, e31, e32, e33, e34, cE, cOE, hcs, hap, killE, deadOf, rwE, cD, cO, consD, gdS, eqB, newC, mkV, storeC, firstN, snocAll, appAll, dropN, repN, putSl, slAt, allL, lvC, softC, ckD, ckO, hcallC, wfC, wfL, wfE, wfV, hP, hk, res5, kp5, slKx, rwK, rwE, lwC, rowKeyB])
    refine ⟨by omega, ?_⟩
    refine Run_parse _ (ps_keys (tokens := false) hka hkl hne) (by simp only [List.length_append, List.length_cons, List.length_nil]; omega) hP hE (by rw [hn0]; exact Nat.zero_le _) rfl (by simp) ?_
    have hm0 : ks.length ≠ 0 := fun h => hne (List.eq_nil_of_length_eq_zero h)
    have z1 : (((ks.length : Nat) : Int) == 0) = false := by simp only [beq_eq_false_iff_ne, ne_eq]; omega
    have z2 : IntKind.i64.wrap ((((kJ false ks).length : Nat) : Int) + 1) = (((kJ false ks).length : Nat) : Int) + 1 := by rw [IntWalk.i64_in _ (by omega)]
    (refine VT_ok hctr (rs := res5) true 300 _ _ _ ?_; simp (config := { maxSteps := 1000000 }) only [VT, f00, f01, opG_t, opG_f, putG_t, putG_f, VC, appL, repZ, mkFs, newSl, resS, teS, resV, opK, putK, storeK, softS, eqC, eqCs, callS, moveS, loadS, nilS, binV, binS, unS, convS, faS, fldS, iaS, ixS, slS, lenS, buildS, fillS, extS, ifS, capsS, boundS, strLen, minS, maxS, pickS, plainS, oneS, onesS, cellsS, ev, evs, getS, ofVal, takeN, takeAt, layN, nthS, setN, snoc, lenN, unw, memN, trimS, TE.sv, argS, cxOf, lays, ↓reduceIte, reduceCtorEq, Value.oneCell', Nat.reduceEqDiff, Nat.reduceAdd, Nat.reduceLT, Nat.reduceBEq, Nat.reduceSub, Nat.reduceLeDiff, e00, e01, e02, e03, e04, e05, e06, e07, e08, e09, e10, e11, e12, e13, e14, e15, e16, e17, e18, e19, e20, e21, e22, e23, e24, e25, e26, e27, e28, e29, e30, e31, e32, e33, e34, cE, cOE, hcs, hap, killE, deadOf, rwE, cD, cO, consD, gdS, eqB, newC, mkV, storeC, firstN, snocAll, appAll, dropN, repN, putSl, slAt, allL, lvC, softC, ckD, ckO, hcallC, wfC, wfL, wfE, wfV, hP, hk, res5, kp5, lwC, rowKeyB, psV, psE, rqS, keysR, rwE, List.length_map, z1, z2, bne_self_eq_false])
    refine ⟨Tryz.underlying4, ?_⟩
    refine Run_alias (M := { m : Nat // ks.length ≤ m ∧ m ≤ maxLen } × { m : Nat // ks.length ≤ m ∧ m ≤ maxLen }) (Φ := fun m ρ => (SC.sl 0 0 ks.length m.1.1).den ρ = (SC.rw 0 ks.length).den ρ ∧ (SC.sl 1 0 ks.length m.2.1).den ρ = (SC.rw 1 ks.length).den ρ) (en' := fun m => enK2 false ks m.2.1) (sl' := fun m => slK2 false false ks m.1.1 0) (fun ρ w hw => ?_) (fun m => ?_) (fun m => ?_) ?_
    · obtain ⟨m1, h1⟩ := row_sl (N := 0) (n := ks.length) hw rfl hm0
      obtain ⟨m2, h2⟩ := row_sl (N := 1) (n := ks.length) hw rfl hm0
      exact ⟨(m1, m2), h1, h2⟩
    · refine ⟨⟨rfl, rfl, fun _ _ => rfl, id⟩, ⟨rfl, rfl, fun _ _ => rfl, id⟩, ⟨rfl, rfl, fun ρ h => ?_, fun h => ?_⟩, trivial⟩
      · simp only [dens, List.map_cons, List.map_nil, h.2]
      · intro y hy
        simp only [List.mem_cons, List.not_mem_nil, or_false] at hy
        rcases hy with rfl | rfl | rfl | rfl | rfl | rfl | rfl | rfl | rfl | rfl | rfl <;> first | trivial | (show 1 < _; simp [lenN])
    · refine ⟨⟨_, rfl, fun _ _ => rfl, id⟩, ⟨_, rfl, fun _ _ => rfl, id⟩, ⟨_, rfl, fun _ _ => rfl, id⟩, ⟨_, rfl, fun _ h => h.1, id⟩, ⟨_, rfl, fun _ _ => rfl, id⟩, ⟨_, rfl, fun _ _ => rfl, id⟩, ⟨_, rfl, fun _ _ => rfl, id⟩, trivial⟩
    rintro ⟨⟨m1, hm1, _⟩, ⟨m2, hm2, _⟩⟩
    show Run C _ _ (slK2 false false ks m1 0) (enK2 false ks m2)
    refine Run_loopP (ι := { i : Nat // i ≤ ks.length }) (fun i => slK2 false false ks m1 i.1) (fun _ => enK2 false ks m2) (fun i => ks.length - i.1) ⟨0, Nat.zero_le _⟩ (sub_mk ⟨rfl, rfl, rfl, rfl, rfl, rfl, rfl, trivial⟩) rfl ?_
    rintro ⟨i, hi⟩ D dP dS dw dn dr dk ddf dPan dRet hX hJ
    have hP0 := hP; have hk0 := hk; have hctr0 := hctr
    have hP : D.P = Tryz.prog := by rw [dP]; exact hP0
    have hk : D.kp = kp5 := by rw [dk]; exact hk0
    have hctr : CtrOk D lwC := lwC_ok hP (by rw [dS, dw]; exact hE)
    show Run D _ _ (slK2 false false ks m1 i) (enK2 false ks m2)
    by_cases him : i < ks.length
    · obtain ⟨x, hx⟩ : ∃ x, ks[i]? = some x := ⟨_, List.getElem?_eq_getElem him⟩
      have c1 : decide ((i : Int) < ((ks.length : Nat) : Int)) = true := decide_eq_true (by omega)
      have p3 : IntKind.i64.wrap ((i : Int) + 1) = ((i + 1 : Nat) : Int) := by rw [IntWalk.i64_in _ (by omega)]; rfl
      have p0 : (0 : Int) ≤ (i : Int) := by omega
      have p1 : (i : Int) < ((ks.length : Nat) : Int) := by omega
      have hx2 : (ks.map getKC)[i]? = some (getKC x) := by rw [List.getElem?_map, hx]; rfl
      have ft := flatG_take (z := 16) rcS_len hx2
      have fk := flatG_take (f := fun x => [SC.s x]) (z := 1) (fun _ => rfl) hx
      have fn : nthS (flatG (fun x => [SC.s x]) ks) i = some (SC.s x) := by
        have := flatG_nth (f := fun x => [SC.s x]) (z := 1) (j := 0) (fun _ => rfl) hx (by decide)
        rw [Nat.mul_one, Nat.add_zero] at this
        exact this
      simp only [Nat.mul_one] at fk
      simp only [rcS, getKC] at ft
      (refine VT_ok hctr (rs := res5) true 300 _ _ _ ?_; simp (config := { maxSteps := 1000000 }) only [VT, f00, f01, opG_t, opG_f, putG_t, putG_f, VC, appL, repZ, mkFs, newSl, resS, teS, resV, opK, putK, storeK, softS, eqC, eqCs, callS, moveS, loadS, nilS, binV, binS, unS, convS, faS, fldS, iaS, ixS, slS, lenS, buildS, fillS, extS, ifS, capsS, boundS, strLen, minS, maxS, pickS, plainS, oneS, onesS, cellsS, ev, evs, getS, ofVal, takeN, takeAt, layN, nthS, setN, snoc, lenN, unw, memN, trimS, TE.sv, argS, cxOf, lays, ↓reduceIte, reduceCtorEq, Value.oneCell', Nat.reduceEqDiff, Nat.reduceAdd, Nat.reduceLT, Nat.reduceBEq, Nat.reduceSub, Nat.reduceLeDiff, e00, e01, e02, e03, e04, e05, e06, e07, e08, e09, e10, e11, e12, e13, e14, e15, e16, e17, e18, e19, e20, e21, e22, e23, e24, e25, e26, e27, e28, e29, e30, e31, e32, e33, e34, cE, cOE, hcs, hap, killE, deadOf, rwE, cD, cO, consD, gdS, eqB, newC, mkV, storeC, firstN, snocAll, appAll, dropN, repN, putSl, slAt, allL, lvC, softC, ckD, ckO, hcallC, wfC, wfL, wfE, wfV, hP, hk, res5, kp5, slK2, enK2, rwE, rwK, lwC, rowKeyB, c1])
      (refine Run_drawD hctr (by rw [hP]; rfl) rs5_20 [] (ensure_type_of% (Cmp.of (by simp (config := { maxSteps := 1000000 }) only [VC, appL, repZ, mkFs, newSl, resS, teS, resV, opK, putK, storeK, softS, eqC, eqCs, callS, moveS, loadS, nilS, binV, binS, unS, convS, faS, fldS, iaS, ixS, slS, lenS, buildS, fillS, extS, ifS, capsS, boundS, strLen, minS, maxS, pickS, plainS, oneS, onesS, cellsS, ev, evs, getS, ofVal, takeN, takeAt, layN, nthS, setN, snoc, lenN, unw, memN, trimS, TE.sv, argS, cxOf, lays, ↓reduceIte, reduceCtorEq, Value.oneCell', Nat.reduceEqDiff, Nat.reduceAdd, Nat.reduceLT, Nat.reduceBEq, Nat.reduceSub, Nat.reduceLeDiff, e00, e01, e02, e03, e04, e05, e06, e07, e08, e09, e10, e11, e12, e13, e14, e15, e16, e17, e18, e19, e20, e21, e22, e23, e24, e25, e26, e27, e28, e29, e30, e31, e32, e33, e34, cE, cOE, hcs, hap, killE, deadOf, rwE, cD, cO, consD, gdS, eqB, newC, mkV, storeC, firstN, snocAll, appAll, dropN, repN, putSl, slAt, allL, lvC, softC, ckD, ckO, hcallC, wfC, wfL, wfE, wfV, hP, lwC, rowKeyB, c1, p3, p0, p1, Int.toNat_natCast, Nat.mul_one, ft, fk, fn, getKC, rcS, steq_cm, true_and, bne_self_eq_false, beq_self_eq_true, Bool.and_self, Bool.and_true, Bool.not_true]; rfl)) "" Cmp.mk) (by kernel_rfl) (by kernel_rfl) (by first | exact lenB_one _ | kernel_rfl) (by kernel_rfl) (by rfl) (by rfl) (by first | exact firstN_self _ | rfl) (by rfl) (by simp (config := { maxSteps := 1000000 }) only [VC, appL, repZ, mkFs, newSl, resS, teS, resV, opK, putK, storeK, softS, eqC, eqCs, callS, moveS, loadS, nilS, binV, binS, unS, convS, faS, fldS, iaS, ixS, slS, lenS, buildS, fillS, extS, ifS, capsS, boundS, strLen, minS, maxS, pickS, plainS, oneS, onesS, cellsS, ev, evs, getS, ofVal, takeN, takeAt, layN, nthS, setN, snoc, lenN, unw, memN, trimS, TE.sv, argS, cxOf, lays, ↓reduceIte, reduceCtorEq, Value.oneCell', Nat.reduceEqDiff, Nat.reduceAdd, Nat.reduceLT, Nat.reduceBEq, Nat.reduceSub, Nat.reduceLeDiff, e00, e01, e02, e03, e04, e05, e06, e07, e08, e09, e10, e11, e12, e13, e14, e15, e16, e17, e18, e19, e20, e21, e22, e23, e24, e25, e26, e27, e28, e29, e30, e31, e32, e33, e34, cE, cOE, hcs, hap, killE, deadOf, rwE, cD, cO, consD, gdS, eqB, newC, mkV, storeC, firstN, snocAll, appAll, dropN, repN, putSl, slAt, allL, lvC, softC, ckD, ckO, hcallC, wfC, wfL, wfE, wfV, hP, lwC, rowKeyB, c1, p3, p0, p1, Int.toNat_natCast, Nat.mul_one, ft, fk, fn, getKC, rcS, steq_cm, true_and, bne_self_eq_false, beq_self_eq_true, Bool.and_self, Bool.and_true, Bool.not_true]) ?_; refine VT_ok hctr (rs := res5) true 300 _ _ _ ?_; simp (config := { maxSteps := 1000000 }) only [VT, f00, f01, opG_t, opG_f, putG_t, putG_f, VC, appL, repZ, mkFs, newSl, resS, teS, resV, opK, putK, storeK, softS, eqC, eqCs, callS, moveS, loadS, nilS, binV, binS, unS, convS, faS, fldS, iaS, ixS, slS, lenS, buildS, fillS, extS, ifS, capsS, boundS, strLen, minS, maxS, pickS, plainS, oneS, onesS, cellsS, ev, evs, getS, ofVal, takeN, takeAt, layN, nthS, setN, snoc, lenN, unw, memN, trimS, TE.sv, argS, cxOf, lays, ↓reduceIte, reduceCtorEq, Value.oneCell', Nat.reduceEqDiff, Nat.reduceAdd, Nat.reduceLT, Nat.reduceBEq, Nat.reduceSub, Nat.reduceLeDiff, e00, e01, e02, e03, e04, e05, e06, e07, e08, e09, e10, e11, e12, e13, e14, e15, e16, e17, e18, e19, e20, e21, e22, e23, e24, e25, e26, e27, e28, e29, e30, e31, e32, e33, e34, cE, cOE, hcs, hap, killE, deadOf, rwE, cD, cO, consD, gdS, eqB, newC, mkV, storeC, firstN, snocAll, appAll, dropN, repN, putSl, slAt, allL, lvC, softC, ckD, ckO, hcallC, wfC, wfL, wfE, wfV, hP, hk, res5, kp5, lwC, rowKeyB, c1, p3, p0, p1, Int.toNat_natCast, Nat.mul_one, ft, fk, fn, getKC, rcS, steq_cm, true_and, bne_self_eq_false, beq_self_eq_true, Bool.and_self, Bool.and_true, Bool.not_true])
      exact hJ ⟨i + 1, by omega⟩ _ (by show ks.length - (i + 1) < ks.length - i; omega) (sub_mk ⟨rfl, rfl, rfl, rfl, rfl, rfl, rfl, trivial⟩)
    · have c1 : decide ((i : Int) < ((ks.length : Nat) : Int)) = false := decide_eq_false (by omega)
      (refine VT_ok hctr (rs := res5) true 300 _ _ _ ?_; simp (config := { maxSteps := 1000000 }) only [VT, f00, f01, opG_t, opG_f, putG_t, putG_f, VC, appL, repZ, mkFs, newSl, resS, teS, resV, opK, putK, storeK, softS, eqC, eqCs, callS, moveS, loadS, nilS, binV, binS, unS, convS, faS, fldS, iaS, ixS, slS, lenS, buildS, fillS, extS, ifS, capsS, boundS, strLen, minS, maxS, pickS, plainS, oneS, onesS, cellsS, ev, evs, getS, ofVal, takeN, takeAt, layN, nthS, setN, snoc, lenN, unw, memN, trimS, TE.sv, argS, cxOf, lays, ↓reduceIte, reduceCtorEq, Value.oneCell', Nat.reduceEqDiff, Nat.reduceAdd, Nat.reduceLT, Nat.reduceBEq, Nat.reduceSub, Nat.reduceLeDiff, e00, e01, e02, e03, e04, e05, e06, e07, e08, e09, e10, e11, e12, e13, e14, e15, e16, e17, e18, e19, e20, e21, e22, e23, e24, e25, e26, e27, e28, e29, e30, e31, e32, e33, e34, cE, cOE, hcs, hap, killE, deadOf, rwE, cD, cO, consD, gdS, eqB, newC, mkV, storeC, firstN, snocAll, appAll, dropN, repN, putSl, slAt, allL, lvC, softC, ckD, ckO, hcallC, wfC, wfL, wfE, wfV, hP, hk, res5, kp5, slK2, enK2, rwE, rwK, lwC, rowKeyB, c1])
      refine hX rfl rfl ?_
      have hP := hP0; have hk := hk0; have hctr := hctr0
      (refine VT_ok hctr (rs := res5) true 300 _ _ _ ?_; simp (config := { maxSteps := 1000000 }) only [VT, f00, f01, opG_t, opG_f, putG_t, putG_f, VC, appL, repZ, mkFs, newSl, resS, teS, resV, opK, putK, storeK, softS, eqC, eqCs, callS, moveS, loadS, nilS, binV, binS, unS, convS, faS, fldS, iaS, ixS, slS, lenS, buildS, fillS, extS, ifS, capsS, boundS, strLen, minS, maxS, pickS, plainS, oneS, onesS, cellsS, ev, evs, getS, ofVal, takeN, takeAt, layN, nthS, setN, snoc, lenN, unw, memN, trimS, TE.sv, argS, cxOf, lays, ↓reduceIte, reduceCtorEq, Value.oneCell', Nat.reduceEqDiff, Nat.reduceAdd, Nat.reduceLT, Nat.reduceBEq, Nat.reduceSub, Nat.reduceLeDiff, e00, e01, e02, e03, e04, e05, e06, e07, e08, e09, e10, e11, e12, e13, e14, e15, e16, e17, e18, e19, e20, e21, e22, e23, e24, e25, e26, e27, e28, e29, e30, e31, e32, e33, e34, cE, cOE, hcs, hap, killE, deadOf, rwE, cD, cO, consD, gdS, eqB, newC, mkV, storeC, firstN, snocAll, appAll, dropN, repN, putSl, slAt, allL, lvC, softC, ckD, ckO, hcallC, wfC, wfL, wfE, wfV, hP, hk, res5, kp5, lwC, rowKeyB, c1])
      exact fin _
theorem keys_ft {w : World} {a : Option Addr} {n c : Nat} {ws : List (List UInt8)} (hraw : RawS w w.heap.size a ws) (hn : ws.length = n) (hc : n ≤ c) (h63 : n ≤ 9223372036854775807) (hl : ∀ x ∈ ws, x.length ≤ 9223372036854775807) (hE0 : EnvT w) :
    Calls Tryz.prog 5 #[.slice a n c, .bool false, .bool true] w fun e w' => e = .returned (.bool true) ∧ Below w.heap.size w w' := by
  refine calls_of_Run Tryz.func5 rfl kp5 (S := Non) (ρ := fun _ => reOf 0) (en := []) [.c (.v (.slice a n c)), .c (.b false), .c (.b true)] Tryz.ntmps5 (At.nil _ _ _) (by simp [SV.wf, SC.wf]) (by simp) ?_
  intro C hC hP hk
  have hE : ∀ w', Upd C.S C.w0 w' → EnvT w' := fun w' hu => by rw [hC] at hu; exact hE0.below hu.to_below
  have hctr := lwC_ok hP hE
  have hn0 : C.n0 = 0 := by rw [hC]; rfl
  have fin : ∀ en, Fin C res5 (.c (.b true)) en := fun en => Fin_ro (v := .c (.b true)) hC hres5 rfl trivial
  have hr : ∀ (k : Nat) x, ws[k]? = some x → ∃ b o, a = some ⟨b, o, none⟩ ∧ C.rd b (o + k) 1 = some [.s x] := fun k x hx => hraw.rd (D := C) (by rw [hC]; exact fun k hk => hk.elim) (by rw [hC]; rfl) hx
  (refine VT_ok hctr (rs := res5) true 300 _ _ _ ?_; simp (config := { maxSteps := 1000000 }) only [VT, f00, f01, opG_t, opG_f, putG_t, putG_f, VC, appL, repZ, mkFs, newSl, resS, teS, resV, opK, putK, storeK, softS, eqC, eqCs, callS, moveS, loadS, nilS, binV, binS, unS, convS, faS, fldS, iaS, ixS, slS, lenS, buildS, fillS, extS, ifS, capsS, boundS, strLen, minS, maxS, pickS, plainS, oneS, onesS, cellsS, ev, evs, getS, ofVal, takeN, takeAt, layN, nthS, setN, snoc, lenN, unw, memN, trimS, TE.sv, argS, cxOf, lays, ↓reduceIte, reduceCtorEq, Value.oneCell', Nat.reduceEqDiff, Nat.reduceAdd, Nat.reduceLT, Nat.reduceBEq, Nat.reduceSub, Nat.reduceLeDiff, e00, e01, e02, e03, e04, e05, e06, e07, e08, e09, e10, e11, e12, e13, e14, e15, e16, e17, e18, e19, e20, e21, e22, e23, e24, e25, e26, e27, e28, e29, e30, e31, e32, e33, e34, cE, cOE, hcs, hap, killE, deadOf, rwE, cD, cO, consD, gdS, eqB, newC, mkV, storeC, firstN, snocAll, appAll, dropN, repN, putSl, slAt, allL, lvC, softC, ckD, ckO, hcallC, wfC, wfL, wfE, wfV, hP, hk, res5, kp5, lwC, rowKeyB])
  refine Run_nilrowG true (en' := []) (sl' := slK a n c false true 0 []) (9, 0, rowP 1 0 0) rfl (fun _ => ⟨rfl, .inr ⟨rfl, rfl, rfl⟩⟩) (fun _ => by show ¬ (9 : Nat) = DEAD; decide) ?_ ?_ ?_
  · trivial
  · refine ⟨⟨⟨_, rfl, fun ρ h => rfl⟩, ?_⟩, ⟨⟨_, rfl, fun ρ h => rfl⟩, ?_⟩, ⟨⟨_, rfl, fun ρ h => ?_⟩, ?_⟩, ⟨⟨_, rfl, fun ρ h => rfl⟩, ?_⟩, ⟨⟨_, rfl, fun ρ h => rfl⟩, ?_⟩, ⟨⟨_, rfl, fun ρ h => rfl⟩, ?_⟩, ⟨⟨_, rfl, fun ρ h => rfl⟩, ?_⟩, ⟨⟨_, rfl, fun ρ h => rfl⟩, ?_⟩, trivial⟩
    case refine_3 => have h : (ρ 0).nl = some none := h; simp only [SV.den, SC.den, List.length_nil, rwOf_off h]
    all_goals simp [SV.wf, SC.wf, lenN]
  refine Run_loopE 0 (ι := { j : Nat // j ≤ n ∧ j ≤ 7 }) (κ := { j : Nat // j ≤ n ∧ j ≤ 7 }) (fun j => slK a n c false true j.1 (gkK ws j.1)) (fun j => [rwK (gkK ws j.1)]) (fun j => 7 - j.1) ⟨0, Nat.zero_le _, Nat.zero_le _⟩ (sub_mk ⟨rfl, rfl, rfl, rfl, rfl, rfl, rfl, rfl, trivial⟩) rfl (fun j => slKx false true (gkK ws j.1)) (fun j => [rwK (gkK ws j.1)]) rfl ?_ ?_
  rotate_left
  rintro ⟨j, hjn, hj7⟩ D dP dS dw dn dr dk ddf dPan dRet hX _ hJ
  have hP0 := hP; have hk0 := hk; have hctr0 := hctr
  have hP : D.P = Tryz.prog := by rw [dP]; exact hP0
  have hk : D.kp = kp5 := by rw [dk]; exact hk0
  have hctr : CtrOk D lwC := lwC_ok hP (by rw [dS, dw]; exact hE)
  show Run D _ _ (slK a n c false true j (gkK ws j)) [rwK (gkK ws j)]
  obtain ⟨ks, hks⟩ : ∃ ks, gkK ws j = ks := ⟨_, rfl⟩
  have hka := gkK_all ws j
  have hkl := gkK_len ws j
  rw [hks] at hka hkl ⊢
  have hjl := kJ_le (tokens := false) hka (by omega)
  by_cases hjm : j < n ∧ j < 7
  · obtain ⟨x, hx⟩ : ∃ x, ws[j]? = some x := ⟨_, List.getElem?_eq_getElem (by omega)⟩
    have c1 : decide ((j : Int) < ((n : Nat) : Int)) = true := decide_eq_true (by omega)
    have c2 : decide ((j : Int) < 7) = true := decide_eq_true (by omega)
    have p3 : IntKind.i64.wrap ((j : Int) + 1) = ((j + 1 : Nat) : Int) := by rw [IntWalk.i64_in _ (by omega)]; rfl
    have lx := hl x (List.mem_of_getElem? hx)
    have p0 : (0 : Int) ≤ (j : Int) := by omega
    have p1 : (j : Int) < ((n : Nat) : Int) := by omega
    obtain ⟨b0, oo, ha, hrx⟩ := hr j x hx
    subst ha
    have hrx : D.rd b0 (oo + j) 1 = some [.s x] := by rw [show D.rd = C.rd by unfold Cx.rd; rw [dS, dw]]; exact hrx
    cases hkb : keyB x with
    | false =>
      (refine VT_ok hctr (rs := res5) true 300 _ _ _ ?_; simp (config := { maxSteps := 1000000 }) only [VT, f00, f01, opG_t, opG_f, putG_t, putG_f, VC, appL, repZ, mkFs, newSl, resS, teS, resV, opK, putK, storeK, softS, eqC, eqCs, callS, moveS, loadS, nilS, binV, binS, unS, convS, faS, fldS, iaS, ixS, slS, lenS, buildS, fillS, extS, ifS, capsS, boundS, strLen, minS, maxS, pickS, plainS, oneS, onesS, cellsS, ev, evs, getS, ofVal, takeN, takeAt, layN, nthS, setN, snoc, lenN, unw, memN, trimS, TE.sv, argS, cxOf, lays, ↓reduceIte, reduceCtorEq, Value.oneCell', Nat.reduceEqDiff, Nat.reduceAdd, Nat.reduceLT, Nat.reduceBEq, Nat.reduceSub, Nat.reduceLeDiff, e00, e01, e02, e03, e04, e05, e06, e07, e08, e09, e10, e11, e12, e13, e14, e15, e16, e17, e18, e19, e20, e21, e22, e23, e24, e25, e26, e27, e28, e29, e30, e31, e32, e33, e34, cE, cOE, hcs, hap, killE, deadOf, rwE, cD, cO, consD, gdS, eqB, newC, mkV, storeC, firstN, snocAll, appAll, dropN, repN, putSl, slAt, allL, lvC, softC, ckD, ckO, hcallC, wfC, wfL, wfE, wfV, hP, hk, res5, kp5, slK, rwK, rwE, lwC, rowKeyB, c1, c2, p3, p0, p1, hrx, hkb, lx, Int.toNat_natCast, Nat.mul_one])
      have e1 : gkK ws (j + 1) = ks := by rw [gkK_no hx hkb, hks]
      have hJ' := fun s => hJ ⟨j + 1, by omega, by omega⟩ s (by show 7 - (j + 1) < 7 - j; omega)
      simp only [e1] at hJ'
      exact hJ' _ (sub_mk ⟨rfl, rfl, rfl, rfl, rfl, rfl, rfl, rfl, trivial⟩)
    | true =>
      (refine VT_ok hctr (rs := res5) true 300 _ _ _ ?_; simp (config := { maxSteps := 1000000 }) only [VT, f00, f01, opG_t, opG_f, putG_t, putG_f, VC, appL, repZ, mkFs, newSl, resS, teS, resV, opK, putK, storeK, softS, eqC, eqCs, callS, moveS, loadS, nilS, binV, binS, unS, convS, faS, fldS, iaS, ixS, slS, lenS, buildS, fillS, extS, ifS, capsS, boundS, strLen, minS, maxS, pickS, plainS, oneS, onesS, cellsS, ev, evs, getS, ofVal, takeN, takeAt, layN, nthS, setN, snoc, lenN, unw, memN, trimS, TE.sv, argS, cxOf, lays, ↓reduceIte, reduceCtorEq, Value.oneCell', Nat.reduceEqDiff, Nat.reduceAdd, Nat.reduceLT, Nat.reduceBEq, Nat.reduceSub, Nat.reduceLeDiff, e00, e01, e02, e03, e04, e05, e06, e07, e08, e09, e10, e11, e12, e13, e14, e15, e16, e17, e18, e19, e20, e21, e22, e23, e24, e25, e26, e27, e28, e29, e30, e31, e32, e33, e34, cE, cOE, hcs, hap, killE, deadOf, rwE, cD, cO, consD, gdS, eqB, newC, mkV, storeC, firstN, snocAll, appAll, dropN, repN, putSl, slAt, allL, lvC, softC, ckD, ckO, hcallC, wfC, wfL, wfE, wfV, hP, hk, res5, kp5, slK, rwK, rwE, lwC, rowKeyB, c1, c2, p3, p0, p1, hrx, hkb, lx, Int.toNat_natCast, Nat.mul_one])
      obtain ⟨i0, hi, hz0, hz1, hz2⟩ := info_parts infoStrK
      refine append_op (t := 24) (e := 9) (z := 1) (n := ks.length) (m := 1) (bts := 16) (X := .rw 0 ks.length) (Y := .sl 1 0 1 1) (cells := flatG (fun x => [SC.s x]) ks) (news := [.s x]) (o := some 0) (by rw [hP]; exact Tryz.underlying24) (by rw [hP]; exact hi) hz0 hz1 hz2 rfl (by decide) (by show ¬ (9 : Nat) = DEAD; decide) (.some rfl) rfl rfl (src_sl (L := 1) rfl rfl) rfl rfl (fun pr => by intro y hy; simp only [List.mem_cons, List.not_mem_nil, or_false] at hy; subst hy; trivial) (by omega) (by omega) (by rw [dn, hn0]; exact Nat.zero_le _) rfl (by simp) ?_
      rw [rwK_app]
      have kx := key_le hkb
      have hjs : kJ false ks ++ [32] ++ x = kJ false (gkK ws (j + 1)) := by rw [gkK_yes hx hkb, hks]; unfold kJ; rw [joinB_snoc]; simp
      (refine VT_ok hctr (rs := res5) true 300 _ _ _ ?_; simp (config := { maxSteps := 1000000 }) only [VT, f00, f01, opG_t, opG_f, putG_t, putG_f, VC, appL, repZ, mkFs, newSl, resS, teS, resV, opK, putK, storeK, softS, eqC, eqCs, callS, moveS, loadS, nilS, binV, binS, unS, convS, faS, fldS, iaS, ixS, slS, lenS, buildS, fillS, extS, ifS, capsS, boundS, strLen, minS, maxS, pickS, plainS, oneS, onesS, cellsS, ev, evs, getS, ofVal, takeN, takeAt, layN, nthS, setN, snoc, lenN, unw, memN, trimS, TE.sv, argS, cxOf, lays, ↓reduceIte, reduceCtorEq, Value.oneCell', Nat.reduceEqDiff, Nat.reduceAdd, Nat.reduceLT, Nat.reduceBEq, Nat.reduceSub, Nat.reduceLeDiff, e00, e01, e02, e03, e04, e05, e06, e07, e08, e09, e10, e11, e12, e13, e14, e15, e16, e17, e18, e19, e20, e21, e22, e23, e24, e25, e26, e27, e28, e29, e30, e31, e32, e33, e34, cE, cOE, hcs, hap, killE, deadOf, rwE, cD, cO, consD, gdS, eqB, newC, mkV, storeC, firstN, snocAll, appAll, dropN, repN, putSl, slAt, allL, lvC, softC, ckD, ckO, hcallC, wfC, wfL, wfE, wfV, hP, hk, res5, kp5, slK, lwC, rowKeyB, c1, c2, p3, p0, p1, hrx, hkb, lx, Int.toNat_natCast, Nat.mul_one, killE, deadOf, hjs])
      refine ⟨by omega, by rw [List.length_append]; simp only [List.length_cons, List.length_nil]; omega, ?_⟩
      have hk1 : gkK ws (j + 1) = ks ++ [x] := by rw [gkK_yes hx hkb, hks]
      have hJ' := hJ ⟨j + 1, by omega, by omega⟩ (slK (some ⟨b0, oo, none⟩) n c false true (j + 1) (gkK ws (j + 1))) (by show 7 - (j + 1) < 7 - j; omega) (fun d v h => h)
      rw [hk1] at hJ' ⊢
      refine Run_keepN (f := fun c => 2) (enK := [rwK (ks ++ [x])]) (slK := slK (some ⟨b0, oo, none⟩) n c false true (j + 1) (ks ++ [x])) ⟨fun q hq => ?_, ?_⟩ ?_ ?_ ?_ hJ'
      · exact absurd hq (by rw [dn, hn0]; exact Nat.not_lt_zero _)
      · rw [dn, hn0]; exact Nat.zero_le _
      · intro p q hp hq h
        have hp : p < 1 := hp
        have hq : q < 1 := hq
        omega
      · refine ⟨⟨_, rfl, fun ρ => ?_, ?_⟩, trivial⟩
        · exact flatS_den _ _ _
        · intro y hy
          have hy : y ∈ flatG (fun x => [SC.s x]) (ks ++ [x]) := hy
          simp only [flatG, List.mem_flatMap, List.mem_cons, List.not_mem_nil, or_false] at hy
          obtain ⟨_, _, rfl⟩ := hy; trivial
      · refine ⟨⟨?_, _, rfl, fun ρ => rfl⟩, ⟨?_, _, rfl, fun ρ => rfl⟩, ⟨?_, _, rfl, fun ρ => ?_⟩, ⟨?_, _, rfl, fun ρ => rfl⟩, ⟨?_, _, rfl, fun ρ => rfl⟩, ⟨?_, _, rfl, fun ρ => rfl⟩, ⟨?_, _, rfl, fun ρ => rfl⟩, ⟨?_, _, rfl, fun ρ => rfl⟩, trivial⟩
        all_goals simp [SV.wf, SC.wf, SV.den, SC.den]
  · have hx0 := hX ⟨j, hjn, hj7⟩
    simp only [hks] at hx0
    by_cases hjn' : j < n
    · have c1 : decide ((j : Int) < ((n : Nat) : Int)) = true := decide_eq_true (by omega)
      have c2 : decide ((j : Int) < 7) = false := decide_eq_false (by omega)
      (refine VT_ok hctr (rs := res5) true 300 _ _ _ ?_; simp (config := { maxSteps := 1000000 }) only [VT, f00, f01, opG_t, opG_f, putG_t, putG_f, VC, appL, repZ, mkFs, newSl, resS, teS, resV, opK, putK, storeK, softS, eqC, eqCs, callS, moveS, loadS, nilS, binV, binS, unS, convS, faS, fldS, iaS, ixS, slS, lenS, buildS, fillS, extS, ifS, capsS, boundS, strLen, minS, maxS, pickS, plainS, oneS, onesS, cellsS, ev, evs, getS, ofVal, takeN, takeAt, layN, nthS, setN, snoc, lenN, unw, memN, trimS, TE.sv, argS, cxOf, lays, ↓reduceIte, reduceCtorEq, Value.oneCell', Nat.reduceEqDiff, Nat.reduceAdd, Nat.reduceLT, Nat.reduceBEq, Nat.reduceSub, Nat.reduceLeDiff, e00, e01, e02, e03, e04, e05, e06, e07, e08, e09, e10, e11, e12, e13, e14, e15, e16, e17, e18, e19, e20, e21, e22, e23, e24, e25, e26, e27, e28, e29, e30, e31, e32, e33, e34, cE, cOE, hcs, hap, killE, deadOf, rwE, cD, cO, consD, gdS, eqB, newC, mkV, storeC, firstN, snocAll, appAll, dropN, repN, putSl, slAt, allL, lvC, softC, ckD, ckO, hcallC, wfC, wfL, wfE, wfV, hP, hk, res5, kp5, slK, rwK, rwE, lwC, rowKeyB, c1, c2])
      exact hx0 _ _ rfl (sub_mk ⟨rfl, rfl, rfl, rfl, rfl, rfl, trivial⟩)
    · have c1 : decide ((j : Int) < ((n : Nat) : Int)) = false := decide_eq_false (by omega)
      (refine VT_ok hctr (rs := res5) true 300 _ _ _ ?_; simp (config := { maxSteps := 1000000 }) only [VT, f00, f01, opG_t, opG_f, putG_t, putG_f, VC, appL, repZ, mkFs, newSl, resS, teS, resV, opK, putK, storeK, softS, eqC, eqCs, callS, moveS, loadS, nilS, binV, binS, unS, convS, faS, fldS, iaS, ixS, slS, lenS, buildS, fillS, extS, ifS, capsS, boundS, strLen, minS, maxS, pickS, plainS, oneS, onesS, cellsS, ev, evs, getS, ofVal, takeN, takeAt, layN, nthS, setN, snoc, lenN, unw, memN, trimS, TE.sv, argS, cxOf, lays, ↓reduceIte, reduceCtorEq, Value.oneCell', Nat.reduceEqDiff, Nat.reduceAdd, Nat.reduceLT, Nat.reduceBEq, Nat.reduceSub, Nat.reduceLeDiff, e00, e01, e02, e03, e04, e05, e06, e07, e08, e09, e10, e11, e12, e13, e14, e15, e16, e17, e18, e19, e20, e21, e22, e23, e24, e25, e26, e27, e28, e29, e30, e31, e32, e33, e34, cE, cOE, hcs, hap, killE, deadOf, rwE, cD, cO, consD, gdS, eqB, newC, mkV, storeC, firstN, snocAll, appAll, dropN, repN, putSl, slAt, allL, lvC, softC, ckD, ckO, hcallC, wfC, wfL, wfE, wfV, hP, hk, res5, kp5, slK, rwK, rwE, lwC, rowKeyB, c1])
      exact hx0 _ _ rfl (sub_mk ⟨rfl, rfl, rfl, rfl, rfl, rfl, trivial⟩)
  rintro ⟨j, hjn, hj7⟩
  show Run C _ _ (slKx false true (gkK ws j)) [rwK (gkK ws j)]
  have hka := gkK_all ws j
  have hkl := gkK_len ws j
  obtain ⟨ks, hks⟩ : ∃ ks, gkK ws j = ks := ⟨_, rfl⟩
  rw [hks] at hka hkl ⊢
  have hkl : ks.length ≤ 7 := by omega
  have hjl := kJ_le (tokens := false) hka hkl
  by_cases hne : ks = []
  · subst hne
    (refine VT_ok hctr (rs := res5) true 300 _ _ _ ?_; simp (config := { maxSteps := 1000000 }) only [VT, f00, f01, opG_t, opG_f, putG_t, putG_f, VC, appL, repZ, mkFs, newSl, resS, teS, resV, opK, putK, storeK, softS, eqC, eqCs, callS, moveS, loadS, nilS, binV, binS, unS, convS, faS, fldS, iaS, ixS, slS, lenS, buildS, fillS, extS, ifS, capsS, boundS, strLen, minS, maxS, pickS, plainS, oneS, onesS, cellsS, ev, evs, getS, ofVal, takeN, takeAt, layN, nthS, setN, snoc, lenN, unw, memN, trimS, TE.sv, argS, cxOf, lays, ↓reduceIte, reduceCtorEq, Value.oneCell', Nat.reduceEqDiff, Nat.reduceAdd, Nat.reduceLT, Nat.reduceBEq, Nat.reduceSub, Nat.reduceLeDiff, e00, e01, e02, e03, e04, e05, e06, e07, e08, e09, e10, e11, e12, e13, e14, e15, e16, e17, e18, e19, e20, e21, e22, e23, e24, e25, e26, e27, e28, e29, e30, e31, e32, e33, e34, cE, cOE, hcs, hap, killE, deadOf, rwE, cD, cO, consD, gdS, eqB, newC, mkV, storeC, firstN, snocAll, appAll, dropN, repN, putSl, slAt, allL, lvC, softC, ckD, ckO, hcallC, wfC, wfL, wfE, wfV, hP, hk, res5, kp5, slKx, rwK, rwE, lwC, rowKeyB])
    refine ⟨by omega, ?_⟩
    refine Run_parse _ (ps_nokeys false) (by simp only [List.length_append, List.length_cons, List.length_nil]; omega) hP hE (by rw [hn0]; exact Nat.zero_le _) rfl (by simp) ?_
    have z1 : (((0 : Nat) : Int) == 0) = true := rfl
    (refine VT_ok hctr (rs := res5) true 300 _ _ _ ?_; simp (config := { maxSteps := 1000000 }) only [VT, f00, f01, opG_t, opG_f, putG_t, putG_f, VC, appL, repZ, mkFs, newSl, resS, teS, resV, opK, putK, storeK, softS, eqC, eqCs, callS, moveS, loadS, nilS, binV, binS, unS, convS, faS, fldS, iaS, ixS, slS, lenS, buildS, fillS, extS, ifS, capsS, boundS, strLen, minS, maxS, pickS, plainS, oneS, onesS, cellsS, ev, evs, getS, ofVal, takeN, takeAt, layN, nthS, setN, snoc, lenN, unw, memN, trimS, TE.sv, argS, cxOf, lays, ↓reduceIte, reduceCtorEq, Value.oneCell', Nat.reduceEqDiff, Nat.reduceAdd, Nat.reduceLT, Nat.reduceBEq, Nat.reduceSub, Nat.reduceLeDiff, e00, e01, e02, e03, e04, e05, e06, e07, e08, e09, e10, e11, e12, e13, e14, e15, e16, e17, e18, e19, e20, e21, e22, e23, e24, e25, e26, e27, e28, e29, e30, e31, e32, e33, e34, cE, cOE, hcs, hap, killE, deadOf, rwE, cD, cO, consD, gdS, eqB, newC, mkV, storeC, firstN, snocAll, appAll, dropN, repN, putSl, slAt, allL, lvC, softC, ckD, ckO, hcallC, wfC, wfL, wfE, wfV, hP, hk, res5, kp5, lwC, rowKeyB, psV, psE, rqS, badR, f_unknown, z1, beq_self_eq_true])
    exact fin _
  · (refine VT_ok hctr (rs := res5) true 300 _ _ _ ?_; simp (config := { maxSteps := 1000000 }) only [VT, f00, f01, opG_t, opG_f, putG_t, putG_f, VC, appL, repZ, mkFs, newSl, resS, teS, resV, opK, putK, storeK, softS, eqC, eqCs, callS, moveS, loadS, nilS, binV, binS, unS, convS, faS, fldS, iaS, ixS, slS, lenS, buildS, fillS, extS, ifS, capsS, boundS, strLen, minS, maxS, pickS, plainS, oneS, onesS, cellsS, ev, evs, getS, ofVal, takeN, takeAt, layN, nthS, setN, snoc, lenN, unw, memN, trimS, TE.sv, argS, cxOf, lays, ↓reduceIte, reduceCtorEq, Value.oneCell', Nat.reduceEqDiff, Nat.reduceAdd, Nat.reduceLT, Nat.reduceBEq, Nat.reduceSub, Nat.reduceLeDiff, e00, e01, e02, e03, e04, e05, e06, e07, e08, e09, e10, e11, e12, e13, e14, e15, e16, e17, e18, e19, e20, e21, e22, e23, e24, e25, e26, e27, e28, e29, e30, e31, e32, e33, e34, cE, cOE, hcs, hap, killE, deadOf, rwE, cD, cO, consD, gdS, eqB, newC, mkV, storeC, firstN, snocAll, appAll, dropN, repN, putSl, slAt, allL, lvC, softC, ckD, ckO, hcallC, wfC, wfL, wfE, wfV, hP, hk, res5, kp5, slKx, rwK, rwE, lwC, rowKeyB])
    refine ⟨by omega, ?_⟩
    refine Run_parse _ (ps_keys (tokens := false) hka hkl hne) (by simp only [List.length_append, List.length_cons, List.length_nil]; omega) hP hE (by rw [hn0]; exact Nat.zero_le _) rfl (by simp) ?_
    have hm0 : ks.length ≠ 0 := fun h => hne (List.eq_nil_of_length_eq_zero h)
    have z1 : (((ks.length : Nat) : Int) == 0) = false := by simp only [beq_eq_false_iff_ne, ne_eq]; omega
    have z2 : IntKind.i64.wrap ((((kJ false ks).length : Nat) : Int) + 1) = (((kJ false ks).length : Nat) : Int) + 1 := by rw [IntWalk.i64_in _ (by omega)]
    (refine VT_ok hctr (rs := res5) true 300 _ _ _ ?_; simp (config := { maxSteps := 1000000 }) only [VT, f00, f01, opG_t, opG_f, putG_t, putG_f, VC, appL, repZ, mkFs, newSl, resS, teS, resV, opK, putK, storeK, softS, eqC, eqCs, callS, moveS, loadS, nilS, binV, binS, unS, convS, faS, fldS, iaS, ixS, slS, lenS, buildS, fillS, extS, ifS, capsS, boundS, strLen, minS, maxS, pickS, plainS, oneS, onesS, cellsS, ev, evs, getS, ofVal, takeN, takeAt, layN, nthS, setN, snoc, lenN, unw, memN, trimS, TE.sv, argS, cxOf, lays, ↓reduceIte, reduceCtorEq, Value.oneCell', Nat.reduceEqDiff, Nat.reduceAdd, Nat.reduceLT, Nat.reduceBEq, Nat.reduceSub, Nat.reduceLeDiff, e00, e01, e02, e03, e04, e05, e06, e07, e08, e09, e10, e11, e12, e13, e14, e15, e16, e17, e18, e19, e20, e21, e22, e23, e24, e25, e26, e27, e28, e29, e30, e31, e32, e33, e34, cE, cOE, hcs, hap, killE, deadOf, rwE, cD, cO, consD, gdS, eqB, newC, mkV, storeC, firstN, snocAll, appAll, dropN, repN, putSl, slAt, allL, lvC, softC, ckD, ckO, hcallC, wfC, wfL, wfE, wfV, hP, hk, res5, kp5, lwC, rowKeyB, psV, psE, rqS, keysR, rwE, List.length_map, z1, z2, bne_self_eq_false])
    refine ⟨Tryz.underlying4, ?_⟩
    refine Run_alias (M := { m : Nat // ks.length ≤ m ∧ m ≤ maxLen } × { m : Nat // ks.length ≤ m ∧ m ≤ maxLen }) (Φ := fun m ρ => (SC.sl 0 0 ks.length m.1.1).den ρ = (SC.rw 0 ks.length).den ρ ∧ (SC.sl 1 0 ks.length m.2.1).den ρ = (SC.rw 1 ks.length).den ρ) (en' := fun m => enK2 false ks m.2.1) (sl' := fun m => slK2 false true ks m.1.1 0) (fun ρ w hw => ?_) (fun m => ?_) (fun m => ?_) ?_
    · obtain ⟨m1, h1⟩ := row_sl (N := 0) (n := ks.length) hw rfl hm0
      obtain ⟨m2, h2⟩ := row_sl (N := 1) (n := ks.length) hw rfl hm0
      exact ⟨(m1, m2), h1, h2⟩
    · refine ⟨⟨rfl, rfl, fun _ _ => rfl, id⟩, ⟨rfl, rfl, fun _ _ => rfl, id⟩, ⟨rfl, rfl, fun ρ h => ?_, fun h => ?_⟩, trivial⟩
      · simp only [dens, List.map_cons, List.map_nil, h.2]
      · intro y hy
        simp only [List.mem_cons, List.not_mem_nil, or_false] at hy
        rcases hy with rfl | rfl | rfl | rfl | rfl | rfl | rfl | rfl | rfl | rfl | rfl <;> first | trivial | (show 1 < _; simp [lenN])
    · refine ⟨⟨_, rfl, fun _ _ => rfl, id⟩, ⟨_, rfl, fun _ _ => rfl, id⟩, ⟨_, rfl, fun _ _ => rfl, id⟩, ⟨_, rfl, fun _ h => h.1, id⟩, ⟨_, rfl, fun _ _ => rfl, id⟩, ⟨_, rfl, fun _ _ => rfl, id⟩, ⟨_, rfl, fun _ _ => rfl, id⟩, trivial⟩
    rintro ⟨⟨m1, hm1, _⟩, ⟨m2, hm2, _⟩⟩
    show Run C _ _ (slK2 false true ks m1 0) (enK2 false ks m2)
    refine Run_loopP (ι := { i : Nat // i ≤ ks.length }) (fun i => slK2 false true ks m1 i.1) (fun _ => enK2 false ks m2) (fun i => ks.length - i.1) ⟨0, Nat.zero_le _⟩ (sub_mk ⟨rfl, rfl, rfl, rfl, rfl, rfl, rfl, trivial⟩) rfl ?_
    rintro ⟨i, hi⟩ D dP dS dw dn dr dk ddf dPan dRet hX hJ
    have hP0 := hP; have hk0 := hk; have hctr0 := hctr
    have hP : D.P = Tryz.prog := by rw [dP]; exact hP0
    have hk : D.kp = kp5 := by rw [dk]; exact hk0
    have hctr : CtrOk D lwC := lwC_ok hP (by rw [dS, dw]; exact hE)
    show Run D _ _ (slK2 false true ks m1 i) (enK2 false ks m2)
    by_cases him : i < ks.length
    · obtain ⟨x, hx⟩ : ∃ x, ks[i]? = some x := ⟨_, List.getElem?_eq_getElem him⟩
      have c1 : decide ((i : Int) < ((ks.length : Nat) : Int)) = true := decide_eq_true (by omega)
      have p3 : IntKind.i64.wrap ((i : Int) + 1) = ((i + 1 : Nat) : Int) := by rw [IntWalk.i64_in _ (by omega)]; rfl
      have p0 : (0 : Int) ≤ (i : Int) := by omega
      have p1 : (i : Int) < ((ks.length : Nat) : Int) := by omega
      have hx2 : (ks.map getKC)[i]? = some (getKC x) := by rw [List.getElem?_map, hx]; rfl
      have ft := flatG_take (z := 16) rcS_len hx2
      have fk := flatG_take (f := fun x => [SC.s x]) (z := 1) (fun _ => rfl) hx
      have fn : nthS (flatG (fun x => [SC.s x]) ks) i = some (SC.s x) := by
        have := flatG_nth (f := fun x => [SC.s x]) (z := 1) (j := 0) (fun _ => rfl) hx (by decide)
        rw [Nat.mul_one, Nat.add_zero] at this
        exact this
      simp only [Nat.mul_one] at fk
      simp only [rcS, getKC] at ft
      (refine VT_ok hctr (rs := res5) true 300 _ _ _ ?_; simp (config := { maxSteps := 1000000 }) only [VT, f00, f01, opG_t, opG_f, putG_t, putG_f, VC, appL, repZ, mkFs, newSl, resS, teS, resV, opK, putK, storeK, softS, eqC, eqCs, callS, moveS, loadS, nilS, binV, binS, unS, convS, faS, fldS, iaS, ixS, slS, lenS, buildS, fillS, extS, ifS, capsS, boundS, strLen, minS, maxS, pickS, plainS, oneS, onesS, cellsS, ev, evs, getS, ofVal, takeN, takeAt, layN, nthS, setN, snoc, lenN, unw, memN, trimS, TE.sv, argS, cxOf, lays, ↓reduceIte, reduceCtorEq, Value.oneCell', Nat.reduceEqDiff, Nat.reduceAdd, Nat.reduceLT, Nat.reduceBEq, Nat.reduceSub, Nat.reduceLeDiff, e00, e01, e02, e03, e04, e05, e06, e07, e08, e09, e10, e11, e12, e13, e14, e15, e16, e17, e18, e19, e20, e21, e22, e23, e24, e25, e26, e27, e28, e29, e30, e31, e32, e33, e34, cE, cOE, hcs, hap, killE, deadOf, rwE, cD, cO, consD, gdS, eqB, newC, mkV, storeC, firstN, snocAll, appAll, dropN, repN, putSl, slAt, allL, lvC, softC, ckD, ckO, hcallC, wfC, wfL, wfE, wfV, hP, hk, res5, kp5, slK2, enK2, rwE, rwK, lwC, rowKeyB, c1])
      (refine Run_drawD hctr (by rw [hP]; rfl) rs5_20 [] (ensure_type_of% (Cmp.of (by simp (config := { maxSteps := 1000000 }) only [VC, appL, repZ, mkFs, newSl, resS, teS, resV, opK, putK, storeK, softS, eqC, eqCs, callS, moveS, loadS, nilS, binV, binS, unS, convS, faS, fldS, iaS, ixS, slS, lenS, buildS, fillS, extS, ifS, capsS, boundS, strLen, minS, maxS, pickS, plainS, oneS, onesS, cellsS, ev, evs, getS, ofVal, takeN, takeAt, layN, nthS, setN, snoc, lenN, unw, memN, trimS, TE.sv, argS, cxOf, lays, ↓reduceIte, reduceCtorEq, Value.oneCell', Nat.reduceEqDiff, Nat.reduceAdd, Nat.reduceLT, Nat.reduceBEq, Nat.reduceSub, Nat.reduceLeDiff, e00, e01, e02, e03, e04, e05, e06, e07, e08, e09, e10, e11, e12, e13, e14, e15, e16, e17, e18, e19, e20, e21, e22, e23, e24, e25, e26, e27, e28, e29, e30, e31, e32, e33, e34, cE, cOE, hcs, hap, killE, deadOf, rwE, cD, cO, consD, gdS, eqB, newC, mkV, storeC, firstN, snocAll, appAll, dropN, repN, putSl, slAt, allL, lvC, softC, ckD, ckO, hcallC, wfC, wfL, wfE, wfV, hP, lwC, rowKeyB, c1, p3, p0, p1, Int.toNat_natCast, Nat.mul_one, ft, fk, fn, getKC, rcS, steq_cm, true_and, bne_self_eq_false, beq_self_eq_true, Bool.and_self, Bool.and_true, Bool.not_true]; rfl)) "" Cmp.mk) (by kernel_rfl) (by kernel_rfl) (by first | exact lenB_one _ | kernel_rfl) (by kernel_rfl) (by rfl) (by rfl) (by first | exact firstN_self _ | rfl) (by rfl) (by simp (config := { maxSteps := 1000000 }) only [VC, appL, repZ, mkFs, newSl, resS, teS, resV, opK, putK, storeK, softS, eqC, eqCs, callS, moveS, loadS, nilS, binV, binS, unS, convS, faS, fldS, iaS, ixS, slS, lenS, buildS, fillS, extS, ifS, capsS, boundS, strLen, minS, maxS, pickS, plainS, oneS, onesS, cellsS, ev, evs, getS, ofVal, takeN, takeAt, layN, nthS, setN, snoc, lenN, unw, memN, trimS, TE.sv, argS, cxOf, lays, ↓reduceIte, reduceCtorEq, Value.oneCell', Nat.reduceEqDiff, Nat.reduceAdd, Nat.reduceLT, Nat.reduceBEq, Nat.reduceSub, Nat.reduceLeDiff, e00, e01, e02, e03, e04, e05, e06, e07, e08, e09, e10, e11, e12, e13, e14, e15, e16, e17, e18, e19, e20, e21, e22, e23, e24, e25, e26, e27, e28, e29, e30, e31, e32, e33, e34, cE, cOE, hcs, hap, killE, deadOf, rwE, cD, cO, consD, gdS, eqB, newC, mkV, storeC, firstN, snocAll, appAll, dropN, repN, putSl, slAt, allL, lvC, softC, ckD, ckO, hcallC, wfC, wfL, wfE, wfV, hP, lwC, rowKeyB, c1, p3, p0, p1, Int.toNat_natCast, Nat.mul_one, ft, fk, fn, getKC, rcS, steq_cm, true_and, bne_self_eq_false, beq_self_eq_true, Bool.and_self, Bool.and_true, Bool.not_true]) ?_; refine VT_ok hctr (rs := res5) true 300 _ _ _ ?_; simp (config := { maxSteps := 1000000 }) only [VT, f00, f01, opG_t, opG_f, putG_t, putG_f, VC, appL, repZ, mkFs, newSl, resS, teS, resV, opK, putK, storeK, softS, eqC, eqCs, callS, moveS, loadS, nilS, binV, binS, unS, convS, faS, fldS, iaS, ixS, slS, lenS, buildS, fillS, extS, ifS, capsS, boundS, strLen, minS, maxS, pickS, plainS, oneS, onesS, cellsS, ev, evs, getS, ofVal, takeN, takeAt, layN, nthS, setN, snoc, lenN, unw, memN, trimS, TE.sv, argS, cxOf, lays, ↓reduceIte, reduceCtorEq, Value.oneCell', Nat.reduceEqDiff, Nat.reduceAdd, Nat.reduceLT, Nat.reduceBEq, Nat.reduceSub, Nat.reduceLeDiff, e00, e01, e02, e03, e04, e05, e06, e07, e08, e09, e10, e11, e12, e13, e14, e15, e16, e17, e18, e19, e20, e21, e22, e23, e24, e25, e26, e27, e28, e29, e30, e31, e32, e33, e34, cE, cOE, hcs, hap, killE, deadOf, rwE, cD, cO, consD, gdS, eqB, newC, mkV, storeC, firstN, snocAll, appAll, dropN, repN, putSl, slAt, allL, lvC, softC, ckD, ckO, hcallC, wfC, wfL, wfE, wfV, hP, hk, res5, kp5, lwC, rowKeyB, c1, p3, p0, p1, Int.toNat_natCast, Nat.mul_one, ft, fk, fn, getKC, rcS, steq_cm, true_and, bne_self_eq_false, beq_self_eq_true, Bool.and_self, Bool.and_true, Bool.not_true])
      exact hJ ⟨i + 1, by omega⟩ _ (by show ks.length - (i + 1) < ks.length - i; omega) (sub_mk ⟨rfl, rfl, rfl, rfl, rfl, rfl, rfl, trivial⟩)
    · have c1 : decide ((i : Int) < ((ks.length : Nat) : Int)) = false := decide_eq_false (by omega)
      (refine VT_ok hctr (rs := res5) true 300 _ _ _ ?_; simp (config := { maxSteps := 1000000 }) only [VT, f00, f01, opG_t, opG_f, putG_t, putG_f, VC, appL, repZ, mkFs, newSl, resS, teS, resV, opK, putK, storeK, softS, eqC, eqCs, callS, moveS, loadS, nilS, binV, binS, unS, convS, faS, fldS, iaS, ixS, slS, lenS, buildS, fillS, extS, ifS, capsS, boundS, strLen, minS, maxS, pickS, plainS, oneS, onesS, cellsS, ev, evs, getS, ofVal, takeN, takeAt, layN, nthS, setN, snoc, lenN, unw, memN, trimS, TE.sv, argS, cxOf, lays, ↓reduceIte, reduceCtorEq, Value.oneCell', Nat.reduceEqDiff, Nat.reduceAdd, Nat.reduceLT, Nat.reduceBEq, Nat.reduceSub, Nat.reduceLeDiff, e00, e01, e02, e03, e04, e05, e06, e07, e08, e09, e10, e11, e12, e13, e14, e15, e16, e17, e18, e19, e20, e21, e22, e23, e24, e25, e26, e27, e28, e29, e30, e31, e32, e33, e34, cE, cOE, hcs, hap, killE, deadOf, rwE, cD, cO, consD, gdS, eqB, newC, mkV, storeC, firstN, snocAll, appAll, dropN, repN, putSl, slAt, allL, lvC, softC, ckD, ckO, hcallC, wfC, wfL, wfE, wfV, hP, hk, res5, kp5, slK2, enK2, rwE, rwK, lwC, rowKeyB, c1])
      refine hX rfl rfl ?_
      have hP := hP0; have hk := hk0; have hctr := hctr0
      (refine VT_ok hctr (rs := res5) true 300 _ _ _ ?_; simp (config := { maxSteps := 1000000 }) only [VT, f00, f01, opG_t, opG_f, putG_t, putG_f, VC, appL, repZ, mkFs, newSl, resS, teS, resV, opK, putK, storeK, softS, eqC, eqCs, callS, moveS, loadS, nilS, binV, binS, unS, convS, faS, fldS, iaS, ixS, slS, lenS, buildS, fillS, extS, ifS, capsS, boundS, strLen, minS, maxS, pickS, plainS, oneS, onesS, cellsS, ev, evs, getS, ofVal, takeN, takeAt, layN, nthS, setN, snoc, lenN, unw, memN, trimS, TE.sv, argS, cxOf, lays, ↓reduceIte, reduceCtorEq, Value.oneCell', Nat.reduceEqDiff, Nat.reduceAdd, Nat.reduceLT, Nat.reduceBEq, Nat.reduceSub, Nat.reduceLeDiff, e00, e01, e02, e03, e04, e05, e06, e07, e08, e09, e10, e11, e12, e13, e14, e15, e16, e17, e18, e19, e20, e21, e22, e23, e24, e25, e26, e27, e28, e29, e30, e31, e32, e33, e34, cE, cOE, hcs, hap, killE, deadOf, rwE, cD, cO, consD, gdS, eqB, newC, mkV, storeC, firstN, snocAll, appAll, dropN, repN, putSl, slAt, allL, lvC, softC, ckD, ckO, hcallC, wfC, wfL, wfE, wfV, hP, hk, res5, kp5, lwC, rowKeyB, c1])
      refine ⟨by omega, ?_⟩
      obtain ⟨L, hL⟩ := ps_badkey (tokens := false) hka hkl
      refine Run_parse _ hL (by simp only [List.length_append, List.length_cons, List.length_nil]; omega) hP hE (by rw [hn0]; exact Nat.zero_le _) rfl (by simp) ?_
      (refine VT_ok hctr (rs := res5) true 300 _ _ _ ?_; simp (config := { maxSteps := 1000000 }) only [VT, f00, f01, opG_t, opG_f, putG_t, putG_f, VC, appL, repZ, mkFs, newSl, resS, teS, resV, opK, putK, storeK, softS, eqC, eqCs, callS, moveS, loadS, nilS, binV, binS, unS, convS, faS, fldS, iaS, ixS, slS, lenS, buildS, fillS, extS, ifS, capsS, boundS, strLen, minS, maxS, pickS, plainS, oneS, onesS, cellsS, ev, evs, getS, ofVal, takeN, takeAt, layN, nthS, setN, snoc, lenN, unw, memN, trimS, TE.sv, argS, cxOf, lays, ↓reduceIte, reduceCtorEq, Value.oneCell', Nat.reduceEqDiff, Nat.reduceAdd, Nat.reduceLT, Nat.reduceBEq, Nat.reduceSub, Nat.reduceLeDiff, e00, e01, e02, e03, e04, e05, e06, e07, e08, e09, e10, e11, e12, e13, e14, e15, e16, e17, e18, e19, e20, e21, e22, e23, e24, e25, e26, e27, e28, e29, e30, e31, e32, e33, e34, cE, cOE, hcs, hap, killE, deadOf, rwE, cD, cO, consD, gdS, eqB, newC, mkV, storeC, firstN, snocAll, appAll, dropN, repN, putSl, slAt, allL, lvC, softC, ckD, ckO, hcallC, wfC, wfL, wfE, wfV, hP, hk, res5, kp5, lwC, rowKeyB, psV, psE, rqS, badR, f_format, beq_self_eq_true])
      exact fin _
theorem keys_tf {w : World} {a : Option Addr} {n c : Nat} {ws : List (List UInt8)} (hraw : RawS w w.heap.size a ws) (hn : ws.length = n) (hc : n ≤ c) (h63 : n ≤ 9223372036854775807) (hl : ∀ x ∈ ws, x.length ≤ 9223372036854775807) (hE0 : EnvT w) :
    Calls Tryz.prog 5 #[.slice a n c, .bool true, .bool false] w fun e w' => e = .returned (.bool true) ∧ Below w.heap.size w w' := by
  refine calls_of_Run Tryz.func5 rfl kp5 (S := Non) (ρ := fun _ => reOf 0) (en := []) [.c (.v (.slice a n c)), .c (.b true), .c (.b false)] Tryz.ntmps5 (At.nil _ _ _) (by simp [SV.wf, SC.wf]) (by simp) ?_
  intro C hC hP hk
  have hE : ∀ w', Upd C.S C.w0 w' → EnvT w' := fun w' hu => by rw [hC] at hu; exact hE0.below hu.to_below
  have hctr := lwC_ok hP hE
  have hn0 : C.n0 = 0 := by rw [hC]; rfl
  have fin : ∀ en, Fin C res5 (.c (.b true)) en := fun en => Fin_ro (v := .c (.b true)) hC hres5 rfl trivial
  have hr : ∀ (k : Nat) x, ws[k]? = some x → ∃ b o, a = some ⟨b, o, none⟩ ∧ C.rd b (o + k) 1 = some [.s x] := fun k x hx => hraw.rd (D := C) (by rw [hC]; exact fun k hk => hk.elim) (by rw [hC]; rfl) hx
  (refine VT_ok hctr (rs := res5) true 300 _ _ _ ?_; simp (config := { maxSteps := 1000000 }) only [VT, f00, f01, opG_t, opG_f, putG_t, putG_f, VC, appL, repZ, mkFs, newSl, resS, teS, resV, opK, putK, storeK, softS, eqC, eqCs, callS, moveS, loadS, nilS, binV, binS, unS, convS, faS, fldS, iaS, ixS, slS, lenS, buildS, fillS, extS, ifS, capsS, boundS, strLen, minS, maxS, pickS, plainS, oneS, onesS, cellsS, ev, evs, getS, ofVal, takeN, takeAt, layN, nthS, setN, snoc, lenN, unw, memN, trimS, TE.sv, argS, cxOf, lays, ↓reduceIte, reduceCtorEq, Value.oneCell', Nat.reduceEqDiff, Nat.reduceAdd, Nat.reduceLT, Nat.reduceBEq, Nat.reduceSub, Nat.reduceLeDiff, e00, e01, e02, e03, e04, e05, e06, e07, e08, e09, e10, e11, e12, e13, e14, e15, e16, e17, e18, e19, e20, e21, e22, e23, e24, e25, e26, e27, e28, e29, e30, e31, e32, e33, e34, cE, cOE, hcs, hap, killE, deadOf, rwE, cD, cO, consD, gdS, eqB, newC, mkV, storeC, firstN, snocAll, appAll, dropN, repN, putSl, slAt, allL, lvC, softC, ckD, ckO, hcallC, wfC, wfL, wfE, wfV, hP, hk, res5, kp5, lwC, rowKeyB])
  refine Run_nilrowG true (en' := []) (sl' := slK a n c true false 0 []) (9, 0, rowP 1 0 0) rfl (fun _ => ⟨rfl, .inr ⟨rfl, rfl, rfl⟩⟩) (fun _ => by show ¬ (9 : Nat) = DEAD; decide) ?_ ?_ ?_
  · trivial
  · refine ⟨⟨⟨_, rfl, fun ρ h => rfl⟩, ?_⟩, ⟨⟨_, rfl, fun ρ h => rfl⟩, ?_⟩, ⟨⟨_, rfl, fun ρ h => ?_⟩, ?_⟩, ⟨⟨_, rfl, fun ρ h => rfl⟩, ?_⟩, ⟨⟨_, rfl, fun ρ h => rfl⟩, ?_⟩, ⟨⟨_, rfl, fun ρ h => rfl⟩, ?_⟩, ⟨⟨_, rfl, fun ρ h => rfl⟩, ?_⟩, ⟨⟨_, rfl, fun ρ h => rfl⟩, ?_⟩, trivial⟩
    case refine_3 => have h : (ρ 0).nl = some none := h; simp only [SV.den, SC.den, List.length_nil, rwOf_off h]
    all_goals simp [SV.wf, SC.wf, lenN]
  refine Run_loopE 0 (ι := { j : Nat // j ≤ n ∧ j ≤ 7 }) (κ := { j : Nat // j ≤ n ∧ j ≤ 7 }) (fun j => slK a n c true false j.1 (gkK ws j.1)) (fun j => [rwK (gkK ws j.1)]) (fun j => 7 - j.1) ⟨0, Nat.zero_le _, Nat.zero_le _⟩ (sub_mk ⟨rfl, rfl, rfl, rfl, rfl, rfl, rfl, rfl, trivial⟩) rfl (fun j => slKx true false (gkK ws j.1)) (fun j => [rwK (gkK ws j.1)]) rfl ?_ ?_
  rotate_left
  rintro ⟨j, hjn, hj7⟩ D dP dS dw dn dr dk ddf dPan dRet hX _ hJ
  have hP0 := hP; have hk0 := hk; have hctr0 := hctr
  have hP : D.P = Tryz.prog := by rw [dP]; exact hP0
  have hk : D.kp = kp5 := by rw [dk]; exact hk0
  have hctr : CtrOk D lwC := lwC_ok hP (by rw [dS, dw]; exact hE)
  show Run D _ _ (slK a n c true false j (gkK ws j)) [rwK (gkK ws j)]
  obtain ⟨ks, hks⟩ : ∃ ks, gkK ws j = ks := ⟨_, rfl⟩
  have hka := gkK_all ws j
  have hkl := gkK_len ws j
  rw [hks] at hka hkl ⊢
  have hjl := kJ_le (tokens := true) hka (by omega)
  by_cases hjm : j < n ∧ j < 7
  · obtain ⟨x, hx⟩ : ∃ x, ws[j]? = some x := ⟨_, List.getElem?_eq_getElem (by omega)⟩
    have c1 : decide ((j : Int) < ((n : Nat) : Int)) = true := decide_eq_true (by omega)
    have c2 : decide ((j : Int) < 7) = true := decide_eq_true (by omega)
    have p3 : IntKind.i64.wrap ((j : Int) + 1) = ((j + 1 : Nat) : Int) := by rw [IntWalk.i64_in _ (by omega)]; rfl
    have lx := hl x (List.mem_of_getElem? hx)
    have p0 : (0 : Int) ≤ (j : Int) := by omega
    have p1 : (j : Int) < ((n : Nat) : Int) := by omega
    obtain ⟨b0, oo, ha, hrx⟩ := hr j x hx
    subst ha
    have hrx : D.rd b0 (oo + j) 1 = some [.s x] := by rw [show D.rd = C.rd by unfold Cx.rd; rw [dS, dw]]; exact hrx
    cases hkb : keyB x with
    | false =>
      (refine VT_ok hctr (rs := res5) true 300 _ _ _ ?_; simp (config := { maxSteps := 1000000 }) only [VT, f00, f01, opG_t, opG_f, putG_t, putG_f, VC, appL, repZ, mkFs, newSl, resS, teS, resV, opK, putK, storeK, softS, eqC, eqCs, callS, moveS, loadS, nilS, binV, binS, unS, convS, faS, fldS, iaS, ixS, slS, lenS, buildS, fillS, extS, ifS, capsS, boundS, strLen, minS, maxS, pickS, plainS, oneS, onesS, cellsS, ev, evs, getS, ofVal, takeN, takeAt, layN, nthS, setN, snoc, lenN, unw, memN, trimS, TE.sv, argS, cxOf, lays, ↓reduceIte, reduceCtorEq, Value.oneCell', Nat.reduceEqDiff, Nat.reduceAdd, Nat.reduceLT, Nat.reduceBEq, Nat.reduceSub, Nat.reduceLeDiff, e00, e01, e02, e03, e04, e05, e06, e07, e08, e09, e10, e11, e12, e13, e14, e15, e16, e17, e18, e19, e20, e21, e22, e23, e24, e25, e26, e27, e28, e29, e30, e31, e32, e33, e34, cE, cOE, hcs, hap, killE, deadOf, rwE, cD, cO, consD, gdS, eqB, newC, mkV, storeC, firstN, snocAll, appAll, dropN, repN, putSl, slAt, allL, lvC, softC, ckD, ckO, hcallC, wfC, wfL, wfE, wfV, hP, hk, res5, kp5, slK, rwK, rwE, lwC, rowKeyB, c1, c2, p3, p0, p1, hrx, hkb, lx, Int.toNat_natCast, Nat.mul_one])
      have e1 : gkK ws (j + 1) = ks := by rw [gkK_no hx hkb, hks]
      have hJ' := fun s => hJ ⟨j + 1, by omega, by omega⟩ s (by show 7 - (j + 1) < 7 - j; omega)
      simp only [e1] at hJ'
      exact hJ' _ (sub_mk ⟨rfl, rfl, rfl, rfl, rfl, rfl, rfl, rfl, trivial⟩)
    | true =>
      (refine VT_ok hctr (rs := res5) true 300 _ _ _ ?_; simp (config := { maxSteps := 1000000 }) only [VT, f00, f01, opG_t, opG_f, putG_t, putG_f, VC, appL, repZ, mkFs, newSl, resS, teS, resV, opK, putK, storeK, softS, eqC, eqCs, callS, moveS, loadS, nilS, binV, binS, unS, convS, faS, fldS, iaS, ixS, slS, lenS, buildS, fillS, extS, ifS, capsS, boundS, strLen, minS, maxS, pickS, plainS, oneS, onesS, cellsS, ev, evs, getS, ofVal, takeN, takeAt, layN, nthS, setN, snoc, lenN, unw, memN, trimS, TE.sv, argS, cxOf, lays, ↓reduceIte, reduceCtorEq, Value.oneCell', Nat.reduceEqDiff, Nat.reduceAdd, Nat.reduceLT, Nat.reduceBEq, Nat.reduceSub, Nat.reduceLeDiff, e00, e01, e02, e03, e04, e05, e06, e07, e08, e09, e10, e11, e12, e13, e14, e15, e16, e17, e18, e19, e20, e21, e22, e23, e24, e25, e26, e27, e28, e29, e30, e31, e32, e33, e34, cE, cOE, hcs, hap, killE, deadOf, rwE, cD, cO, consD, gdS, eqB, newC, mkV, storeC, firstN, snocAll, appAll, dropN, repN, putSl, slAt, allL, lvC, softC, ckD, ckO, hcallC, wfC, wfL, wfE, wfV, hP, hk, res5, kp5, slK, rwK, rwE, lwC, rowKeyB, c1, c2, p3, p0, p1, hrx, hkb, lx, Int.toNat_natCast, Nat.mul_one])
      obtain ⟨i0, hi, hz0, hz1, hz2⟩ := info_parts infoStrK
      refine append_op (t := 24) (e := 9) (z := 1) (n := ks.length) (m := 1) (bts := 16) (X := .rw 0 ks.length) (Y := .sl 1 0 1 1) (cells := flatG (fun x => [SC.s x]) ks) (news := [.s x]) (o := some 0) (by rw [hP]; exact Tryz.underlying24) (by rw [hP]; exact hi) hz0 hz1 hz2 rfl (by decide) (by show ¬ (9 : Nat) = DEAD; decide) (.some rfl) rfl rfl (src_sl (L := 1) rfl rfl) rfl rfl (fun pr => by intro y hy; simp only [List.mem_cons, List.not_mem_nil, or_false] at hy; subst hy; trivial) (by omega) (by omega) (by rw [dn, hn0]; exact Nat.zero_le _) rfl (by simp) ?_
      rw [rwK_app]
      have kx := key_le hkb
      have hjs : kJ true ks ++ [32] ++ x = kJ true (gkK ws (j + 1)) := by rw [gkK_yes hx hkb, hks]; unfold kJ; rw [joinB_snoc]; simp
      (refine VT_ok hctr (rs := res5) true 300 _ _ _ ?_; simp (config := { maxSteps := 1000000 }) only [VT, f00, f01, opG_t, opG_f, putG_t, putG_f, VC, appL, repZ, mkFs, newSl, resS, teS, resV, opK, putK, storeK, softS, eqC, eqCs, callS, moveS, loadS, nilS, binV, binS, unS, convS, faS, fldS, iaS, ixS, slS, lenS, buildS, fillS, extS, ifS, capsS, boundS, strLen, minS, maxS, pickS, plainS, oneS, onesS, cellsS, ev, evs, getS, ofVal, takeN, takeAt, layN, nthS, setN, snoc, lenN, unw, memN, trimS, TE.sv, argS, cxOf, lays, ↓reduceIte, reduceCtorEq, Value.oneCell', Nat.reduceEqDiff, Nat.reduceAdd, Nat.reduceLT, Nat.reduceBEq, Nat.reduceSub, Nat.reduceLeDiff, e00, e01, e02, e03, e04, e05, e06, e07, e08, e09, e10, e11, e12, e13, e14, e15, e16, e17, e18, e19, e20, e21, e22, e23, e24, e25, e26, e27, e28, e29, e30, e31, e32, e33, e34, cE, cOE, hcs, hap, killE, deadOf, rwE, cD, cO, consD, gdS, eqB, newC, mkV, storeC, firstN, snocAll, appAll, dropN, repN, putSl, slAt, allL, lvC, softC, ckD, ckO, hcallC, wfC, wfL, wfE, wfV, hP, hk, res5, kp5, slK, lwC, rowKeyB, c1, c2, p3, p0, p1, hrx, hkb, lx, Int.toNat_natCast, Nat.mul_one, killE, deadOf, hjs])
      refine ⟨by omega, by rw [List.length_append]; simp only [List.length_cons, List.length_nil]; omega, ?_⟩
      have hk1 : gkK ws (j + 1) = ks ++ [x] := by rw [gkK_yes hx hkb, hks]
      have hJ' := hJ ⟨j + 1, by omega, by omega⟩ (slK (some ⟨b0, oo, none⟩) n c true false (j + 1) (gkK ws (j + 1))) (by show 7 - (j + 1) < 7 - j; omega) (fun d v h => h)
      rw [hk1] at hJ' ⊢
      refine Run_keepN (f := fun c => 2) (enK := [rwK (ks ++ [x])]) (slK := slK (some ⟨b0, oo, none⟩) n c true false (j + 1) (ks ++ [x])) ⟨fun q hq => ?_, ?_⟩ ?_ ?_ ?_ hJ'
      · exact absurd hq (by rw [dn, hn0]; exact Nat.not_lt_zero _)
      · rw [dn, hn0]; exact Nat.zero_le _
      · intro p q hp hq h
        have hp : p < 1 := hp
        have hq : q < 1 := hq
        omega
      · refine ⟨⟨_, rfl, fun ρ => ?_, ?_⟩, trivial⟩
        · exact flatS_den _ _ _
        · intro y hy
          have hy : y ∈ flatG (fun x => [SC.s x]) (ks ++ [x]) := hy
          simp only [flatG, List.mem_flatMap, List.mem_cons, List.not_mem_nil, or_false] at hy
          obtain ⟨_, _, rfl⟩ := hy; trivial
      · refine ⟨⟨?_, _, rfl, fun ρ => rfl⟩, ⟨?_, _, rfl, fun ρ => rfl⟩, ⟨?_, _, rfl, fun ρ => ?_⟩, ⟨?_, _, rfl, fun ρ => rfl⟩, ⟨?_, _, rfl, fun ρ => rfl⟩, ⟨?_, _, rfl, fun ρ => rfl⟩, ⟨?_, _, rfl, fun ρ => rfl⟩, ⟨?_, _, rfl, fun ρ => rfl⟩, trivial⟩
        all_goals simp [SV.wf, SC.wf, SV.den, SC.den]
  · have hx0 := hX ⟨j, hjn, hj7⟩
    simp only [hks] at hx0
    by_cases hjn' : j < n
    · have c1 : decide ((j : Int) < ((n : Nat) : Int)) = true := decide_eq_true (by omega)
      have c2 : decide ((j : Int) < 7) = false := decide_eq_false (by omega)
      (refine VT_ok hctr (rs := res5) true 300 _ _ _ ?_; simp (config := { maxSteps := 1000000 }) only [VT, f00, f01, opG_t, opG_f, putG_t, putG_f, VC, appL, repZ, mkFs, newSl, resS, teS, resV, opK, putK, storeK, softS, eqC, eqCs, callS, moveS, loadS, nilS, binV, binS, unS, convS, faS, fldS, iaS, ixS, slS, lenS, buildS, fillS, extS, ifS, capsS, boundS, strLen, minS, maxS, pickS, plainS, oneS, onesS, cellsS, ev, evs, getS, ofVal, takeN, takeAt, layN, nthS, setN, snoc, lenN, unw, memN, trimS, TE.sv, argS, cxOf, lays, ↓reduceIte, reduceCtorEq, Value.oneCell', Nat.reduceEqDiff, Nat.reduceAdd, Nat.reduceLT, Nat.reduceBEq, Nat.reduceSub, Nat.reduceLeDiff, e00, e01, e02, e03, e04, e05, e06, e07, e08, e09, e10, e11, e12, e13, e14, e15, e16, e17, e18, e19, e20, e21, e22, e23, e24, e25, e26, e27, e28, e29, e30, e31, e32, e33, e34, cE, cOE, hcs, hap, killE, deadOf, rwE, cD, cO, consD, gdS, eqB, newC, mkV, storeC, firstN, snocAll, appAll, dropN, repN, putSl, slAt, allL, lvC, softC, ckD, ckO, hcallC, wfC, wfL, wfE, wfV, hP, hk, res5, kp5, slK, rwK, rwE, lwC, rowKeyB, c1, c2])
      exact hx0 _ _ rfl (sub_mk ⟨rfl, rfl, rfl, rfl, rfl, rfl, trivial⟩)
    · have c1 : decide ((j : Int) < ((n : Nat) : Int)) = false := decide_eq_false (by omega)
      (refine VT_ok hctr (rs := res5) true 300 _ _ _ ?_; simp (config := { maxSteps := 1000000 }) only [VT, f00, f01, opG_t, opG_f, putG_t, putG_f, VC, appL, repZ, mkFs, newSl, resS, teS, resV, opK, putK, storeK, softS, eqC, eqCs, callS, moveS, loadS, nilS, binV, binS, unS, convS, faS, fldS, iaS, ixS, slS, lenS, buildS, fillS, extS, ifS, capsS, boundS, strLen, minS, maxS, pickS, plainS, oneS, onesS, cellsS, ev, evs, getS, ofVal, takeN, takeAt, layN, nthS, setN, snoc, lenN, unw, memN, trimS, TE.sv, argS, cxOf, lays, ↓reduceIte, reduceCtorEq, Value.oneCell', Nat.reduceEqDiff, Nat.reduceAdd, Nat.reduceLT, Nat.reduceBEq, Nat.reduceSub, Nat.reduceLeDiff, e00, e01, e02, e03, e04, e05, e06, e07, e08, e09, e10, e11, e12, e13, e14, e15, e16, e17, e18, e19, e20, e21, e22, e23, e24, e25, e26, e27, e28, e29, e30, e31, e32, e33, e34, cE, cOE, hcs, hap, killE, deadOf, rwE, cD, cO, consD, gdS, eqB, newC, mkV, storeC, firstN, snocAll, appAll, dropN, repN, putSl, slAt, allL, lvC, softC, ckD, ckO, hcallC, wfC, wfL, wfE, wfV, hP, hk, res5, kp5, slK, rwK, rwE, lwC, rowKeyB, c1])
      exact hx0 _ _ rfl (sub_mk ⟨rfl, rfl, rfl, rfl, rfl, rfl, trivial⟩)
  rintro ⟨j, hjn, hj7⟩
  show Run C _ _ (slKx true false (gkK ws j)) [rwK (gkK ws j)]
  have hka := gkK_all ws j
  have hkl := gkK_len ws j
  obtain ⟨ks, hks⟩ : ∃ ks, gkK ws j = ks := ⟨_, rfl⟩
  rw [hks] at hka hkl ⊢
  have hkl : ks.length ≤ 7 := by omega
  have hjl := kJ_le (tokens := true) hka hkl
  by_cases hne : ks = []
  · subst hne
    (refine VT_ok hctr (rs := res5) true 300 _ _ _ ?_; simp (config := { maxSteps := 1000000 }) only [VT, f00, f01, opG_t, opG_f, putG_t, putG_f, VC, appL, repZ, mkFs, newSl, resS, teS, resV, opK, putK, storeK, softS, eqC, eqCs, callS, moveS, loadS, nilS, binV, binS, unS, convS, faS, fldS, iaS, ixS, slS, lenS, buildS, fillS, extS, ifS, capsS, boundS, strLen, minS, maxS, pickS, plainS, oneS, onesS, cellsS, ev, evs, getS, ofVal, takeN, takeAt, layN, nthS, setN, snoc, lenN, unw, memN, trimS, TE.sv, argS, cxOf, lays, ↓reduceIte, reduceCtorEq, Value.oneCell', Nat.reduceEqDiff, Nat.reduceAdd, Nat.reduceLT, Nat.reduceBEq, Nat.reduceSub, Nat.reduceLeDiff, e00, e01, e02, e03, e04, e05, e06, e07, e08, e09, e10, e11, e12, e13, e14, e15, e16, e17, e18, e19, e20, e21, e22, e23, e24, e25, e26, e27, e28, e29, e30, e31, e32, e33, e34, cE, cOE, hcs, hap, killE, deadOf, rwE, cD, cO, consD, gdS, eqB, newC, mkV, storeC, firstN, snocAll, appAll, dropN, repN, putSl, slAt, allL, lvC, softC, ckD, ckO, hcallC, wfC, wfL, wfE, wfV, hP, hk, res5, kp5, slKx, rwK, rwE, lwC, rowKeyB])
    refine ⟨by omega, ?_⟩
    refine Run_parse _ (ps_nokeys true) (by simp only [List.length_append, List.length_cons, List.length_nil]; omega) hP hE (by rw [hn0]; exact Nat.zero_le _) rfl (by simp) ?_
    have z1 : (((0 : Nat) : Int) == 0) = true := rfl
    (refine VT_ok hctr (rs := res5) true 300 _ _ _ ?_; simp (config := { maxSteps := 1000000 }) only [VT, f00, f01, opG_t, opG_f, putG_t, putG_f, VC, appL, repZ, mkFs, newSl, resS, teS, resV, opK, putK, storeK, softS, eqC, eqCs, callS, moveS, loadS, nilS, binV, binS, unS, convS, faS, fldS, iaS, ixS, slS, lenS, buildS, fillS, extS, ifS, capsS, boundS, strLen, minS, maxS, pickS, plainS, oneS, onesS, cellsS, ev, evs, getS, ofVal, takeN, takeAt, layN, nthS, setN, snoc, lenN, unw, memN, trimS, TE.sv, argS, cxOf, lays, ↓reduceIte, reduceCtorEq, Value.oneCell', Nat.reduceEqDiff, Nat.reduceAdd, Nat.reduceLT, Nat.reduceBEq, Nat.reduceSub, Nat.reduceLeDiff, e00, e01, e02, e03, e04, e05, e06, e07, e08, e09, e10, e11, e12, e13, e14, e15, e16, e17, e18, e19, e20, e21, e22, e23, e24, e25, e26, e27, e28, e29, e30, e31, e32, e33, e34, cE, cOE, hcs, hap, killE, deadOf, rwE, cD, cO, consD, gdS, eqB, newC, mkV, storeC, firstN, snocAll, appAll, dropN, repN, putSl, slAt, allL, lvC, softC, ckD, ckO, hcallC, wfC, wfL, wfE, wfV, hP, hk, res5, kp5, lwC, rowKeyB, psV, psE, rqS, badR, f_unknown, z1, beq_self_eq_true])
    exact fin _
  · (refine VT_ok hctr (rs := res5) true 300 _ _ _ ?_; simp (config := { maxSteps := 1000000 }) only [VT, f00, f01, opG_t, opG_f, putG_t, putG_f, VC, appL, repZ, mkFs, newSl, resS, teS, resV, opK, putK, storeK, softS, eqC, eqCs, callS, moveS, loadS, nilS, binV, binS, unS, convS, faS, fldS, iaS, ixS, slS, lenS, buildS, fillS, extS, ifS, capsS, boundS, strLen, minS, maxS, pickS, plainS, oneS, onesS, cellsS, ev, evs, getS, ofVal, takeN, takeAt, layN, nthS, setN, snoc, lenN, unw, memN, trimS, TE.sv, argS, cxOf, lays, ↓reduceIte, reduceCtorEq, Value.oneCell', Nat.reduceEqDiff, Nat.reduceAdd, Nat.reduceLT, Nat.reduceBEq, Nat.reduceSub, Nat.reduceLeDiff, e00, e01, e02, e03, e04, e05, e06, e07, e08, e09, e10, e11, e12, e13, e14, e15, e16, e17, e18, e19, e20, e21, e22, e23, e24, e25, e26, e27, e28, e29, e30, e31, e32, e33, e34, cE, cOE, hcs, hap, killE, deadOf, rwE, cD, cO, consD, gdS, eqB, newC, mkV, storeC, firstN, snocAll, appAll, dropN, repN, putSl, slAt, allL, lvC, softC, ckD, ckO, hcallC, wfC, wfL, wfE, wfV, hP, hk, res5, kp5, slKx, rwK, rwE, lwC, rowKeyB])
    refine ⟨by omega, ?_⟩
    refine Run_parse _ (ps_keys (tokens := true) hka hkl hne) (by simp only [List.length_append, List.length_cons, List.length_nil]; omega) hP hE (by rw [hn0]; exact Nat.zero_le _) rfl (by simp) ?_
    have hm0 : ks.length ≠ 0 := fun h => hne (List.eq_nil_of_length_eq_zero h)
    have z1 : (((ks.length : Nat) : Int) == 0) = false := by simp only [beq_eq_false_iff_ne, ne_eq]; omega
    have z2 : IntKind.i64.wrap ((((kJ true ks).length : Nat) : Int) + 1) = (((kJ true ks).length : Nat) : Int) + 1 := by rw [IntWalk.i64_in _ (by omega)]
    (refine VT_ok hctr (rs := res5) true 300 _ _ _ ?_; simp (config := { maxSteps := 1000000 }) only [VT, f00, f01, opG_t, opG_f, putG_t, putG_f, VC, appL, repZ, mkFs, newSl, resS, teS, resV, opK, putK, storeK, softS, eqC, eqCs, callS, moveS, loadS, nilS, binV, binS, unS, convS, faS, fldS, iaS, ixS, slS, lenS, buildS, fillS, extS, ifS, capsS, boundS, strLen, minS, maxS, pickS, plainS, oneS, onesS, cellsS, ev, evs, getS, ofVal, takeN, takeAt, layN, nthS, setN, snoc, lenN, unw, memN, trimS, TE.sv, argS, cxOf, lays, ↓reduceIte, reduceCtorEq, Value.oneCell', Nat.reduceEqDiff, Nat.reduceAdd, Nat.reduceLT, Nat.reduceBEq, Nat.reduceSub, Nat.reduceLeDiff, e00, e01, e02, e03, e04, e05, e06, e07, e08, e09, e10, e11, e12, e13, e14, e15, e16, e17, e18, e19, e20, e21, e22, e23, e24, e25, e26, e27, e28, e29, e30, e31, e32, e33, e34, cE, cOE, hcs, hap, killE, deadOf, rwE, cD, cO, consD, gdS, eqB, newC, mkV, storeC, firstN, snocAll, appAll, dropN, repN, putSl, slAt, allL, lvC, softC, ckD, ckO, hcallC, wfC, wfL, wfE, wfV, hP, hk, res5, kp5, lwC, rowKeyB, psV, psE, rqS, keysR, rwE, List.length_map, z1, z2, bne_self_eq_false])
    refine ⟨Tryz.underlying4, ?_⟩
    refine Run_alias (M := { m : Nat // ks.length ≤ m ∧ m ≤ maxLen } × { m : Nat // ks.length ≤ m ∧ m ≤ maxLen }) (Φ := fun m ρ => (SC.sl 0 0 ks.length m.1.1).den ρ = (SC.rw 0 ks.length).den ρ ∧ (SC.sl 1 0 ks.length m.2.1).den ρ = (SC.rw 1 ks.length).den ρ) (en' := fun m => enK2 true ks m.2.1) (sl' := fun m => slK2 true false ks m.1.1 0) (fun ρ w hw => ?_) (fun m => ?_) (fun m => ?_) ?_
    · obtain ⟨m1, h1⟩ := row_sl (N := 0) (n := ks.length) hw rfl hm0
      obtain ⟨m2, h2⟩ := row_sl (N := 1) (n := ks.length) hw rfl hm0
      exact ⟨(m1, m2), h1, h2⟩
    · refine ⟨⟨rfl, rfl, fun _ _ => rfl, id⟩, ⟨rfl, rfl, fun _ _ => rfl, id⟩, ⟨rfl, rfl, fun ρ h => ?_, fun h => ?_⟩, trivial⟩
      · simp only [dens, List.map_cons, List.map_nil, h.2]
      · intro y hy
        simp only [List.mem_cons, List.not_mem_nil, or_false] at hy
        rcases hy with rfl | rfl | rfl | rfl | rfl | rfl | rfl | rfl | rfl | rfl | rfl <;> first | trivial | (show 1 < _; simp [lenN])
    · refine ⟨⟨_, rfl, fun _ _ => rfl, id⟩, ⟨_, rfl, fun _ _ => rfl, id⟩, ⟨_, rfl, fun _ _ => rfl, id⟩, ⟨_, rfl, fun _ h => h.1, id⟩, ⟨_, rfl, fun _ _ => rfl, id⟩, ⟨_, rfl, fun _ _ => rfl, id⟩, ⟨_, rfl, fun _ _ => rfl, id⟩, trivial⟩
    rintro ⟨⟨m1, hm1, _⟩, ⟨m2, hm2, _⟩⟩
    show Run C _ _ (slK2 true false ks m1 0) (enK2 true ks m2)
    refine Run_loopP (ι := { i : Nat // i ≤ ks.length }) (fun i => slK2 true false ks m1 i.1) (fun _ => enK2 true ks m2) (fun i => ks.length - i.1) ⟨0, Nat.zero_le _⟩ (sub_mk ⟨rfl, rfl, rfl, rfl, rfl, rfl, rfl, trivial⟩) rfl ?_
    rintro ⟨i, hi⟩ D dP dS dw dn dr dk ddf dPan dRet hX hJ
    have hP0 := hP; have hk0 := hk; have hctr0 := hctr
    have hP : D.P = Tryz.prog := by rw [dP]; exact hP0
    have hk : D.kp = kp5 := by rw [dk]; exact hk0
    have hctr : CtrOk D lwC := lwC_ok hP (by rw [dS, dw]; exact hE)
    show Run D _ _ (slK2 true false ks m1 i) (enK2 true ks m2)
    by_cases him : i < ks.length
    · obtain ⟨x, hx⟩ : ∃ x, ks[i]? = some x := ⟨_, List.getElem?_eq_getElem him⟩
      have c1 : decide ((i : Int) < ((ks.length : Nat) : Int)) = true := decide_eq_true (by omega)
      have p3 : IntKind.i64.wrap ((i : Int) + 1) = ((i + 1 : Nat) : Int) := by rw [IntWalk.i64_in _ (by omega)]; rfl
      have p0 : (0 : Int) ≤ (i : Int) := by omega
      have p1 : (i : Int) < ((ks.length : Nat) : Int) := by omega
      have hx2 : (ks.map getKC)[i]? = some (getKC x) := by rw [List.getElem?_map, hx]; rfl
      have ft := flatG_take (z := 16) rcS_len hx2
      have fk := flatG_take (f := fun x => [SC.s x]) (z := 1) (fun _ => rfl) hx
      have fn : nthS (flatG (fun x => [SC.s x]) ks) i = some (SC.s x) := by
        have := flatG_nth (f := fun x => [SC.s x]) (z := 1) (j := 0) (fun _ => rfl) hx (by decide)
        rw [Nat.mul_one, Nat.add_zero] at this
        exact this
      simp only [Nat.mul_one] at fk
      simp only [rcS, getKC] at ft
      (refine VT_ok hctr (rs := res5) true 300 _ _ _ ?_; simp (config := { maxSteps := 1000000 }) only [VT, f00, f01, opG_t, opG_f, putG_t, putG_f, VC, appL, repZ, mkFs, newSl, resS, teS, resV, opK, putK, storeK, softS, eqC, eqCs, callS, moveS, loadS, nilS, binV, binS, unS, convS, faS, fldS, iaS, ixS, slS, lenS, buildS, fillS, extS, ifS, capsS, boundS, strLen, minS, maxS, pickS, plainS, oneS, onesS, cellsS, ev, evs, getS, ofVal, takeN, takeAt, layN, nthS, setN, snoc, lenN, unw, memN, trimS, TE.sv, argS, cxOf, lays, ↓reduceIte, reduceCtorEq, Value.oneCell', Nat.reduceEqDiff, Nat.reduceAdd, Nat.reduceLT, Nat.reduceBEq, Nat.reduceSub, Nat.reduceLeDiff, e00, e01, e02, e03, e04, e05, e06, e07, e08, e09, e10, e11, e12, e13, e14, e15, e16, e17, e18, e19, e20, e21, e22, e23, e24, e25, e26, e27, e28, e29, e30, e31, e32, e33, e34, cE, cOE, hcs, hap, killE, deadOf, rwE, cD, cO, consD, gdS, eqB, newC, mkV, storeC, firstN, snocAll, appAll, dropN, repN, putSl, slAt, allL, lvC, softC, ckD, ckO, hcallC, wfC, wfL, wfE, wfV, hP, hk, res5, kp5, slK2, enK2, rwE, rwK, lwC, rowKeyB, c1])
      (refine Run_drawD hctr (by rw [hP]; rfl) rs5_20 [] (ensure_type_of% (Cmp.of (by simp (config := { maxSteps := 1000000 }) only [VC, appL, repZ, mkFs, newSl, resS, teS, resV, opK, putK, storeK, softS, eqC, eqCs, callS, moveS, loadS, nilS, binV, binS, unS, convS, faS, fldS, iaS, ixS, slS, lenS, buildS, fillS, extS, ifS, capsS, boundS, strLen, minS, maxS, pickS, plainS, oneS, onesS, cellsS, ev, evs, getS, ofVal, takeN, takeAt, layN, nthS, setN, snoc, lenN, unw, memN, trimS, TE.sv, argS, cxOf, lays, ↓reduceIte, reduceCtorEq, Value.oneCell', Nat.reduceEqDiff, Nat.reduceAdd, Nat.reduceLT, Nat.reduceBEq, Nat.reduceSub, Nat.reduceLeDiff, e00, e01, e02, e03, e04, e05, e06, e07, e08, e09, e10, e11, e12, e13, e14, e15, e16, e17, e18, e19, e20, e21, e22, e23, e24, e25, e26, e27, e28, e29, e30, e31, e32, e33, e34, cE, cOE, hcs, hap, killE, deadOf, rwE, cD, cO, consD, gdS, eqB, newC, mkV, storeC, firstN, snocAll, appAll, dropN, repN, putSl, slAt, allL, lvC, softC, ckD, ckO, hcallC, wfC, wfL, wfE, wfV, hP, lwC, rowKeyB, c1, p3, p0, p1, Int.toNat_natCast, Nat.mul_one, ft, fk, fn, getKC, rcS, steq_cm, true_and, bne_self_eq_false, beq_self_eq_true, Bool.and_self, Bool.and_true, Bool.not_true]; rfl)) "" Cmp.mk) (by kernel_rfl) (by kernel_rfl) (by first | exact lenB_one _ | kernel_rfl) (by kernel_rfl) (by rfl) (by rfl) (by first | exact firstN_self _ | rfl) (by rfl) (by simp (config := { maxSteps := 1000000 }) only [VC, appL, repZ, mkFs, newSl, resS, teS, resV, opK, putK, storeK, softS, eqC, eqCs, callS, moveS, loadS, nilS, binV, binS, unS, convS, faS, fldS, iaS, ixS, slS, lenS, buildS, fillS, extS, ifS, capsS, boundS, strLen, minS, maxS, pickS, plainS, oneS, onesS, cellsS, ev, evs, getS, ofVal, takeN, takeAt, layN, nthS, setN, snoc, lenN, unw, memN, trimS, TE.sv, argS, cxOf, lays, ↓reduceIte, reduceCtorEq, Value.oneCell', Nat.reduceEqDiff, Nat.reduceAdd, Nat.reduceLT, Nat.reduceBEq, Nat.reduceSub, Nat.reduceLeDiff, e00, e01, e02, e03, e04, e05, e06, e07, e08, e09, e10, e11, e12, e13, e14, e15, e16, e17, e18, e19, e20, e21, e22, e23, e24, e25, e26, e27, e28, e29, e30, e31, e32, e33, e34, cE, cOE, hcs, hap, killE, deadOf, rwE, cD, cO, consD, gdS, eqB, newC, mkV, storeC, firstN, snocAll, appAll, dropN, repN, putSl, slAt, allL, lvC, softC, ckD, ckO, hcallC, wfC, wfL, wfE, wfV, hP, lwC, rowKeyB, c1, p3, p0, p1, Int.toNat_natCast, Nat.mul_one, ft, fk, fn, getKC, rcS, steq_cm, true_and, bne_self_eq_false, beq_self_eq_true, Bool.and_self, Bool.and_true, Bool.not_true]) ?_; refine VT_ok hctr (rs := res5) true 300 _ _ _ ?_; simp (config := { maxSteps := 1000000 }) only [VT, f00, f01, opG_t, opG_f, putG_t, putG_f, VC, appL, repZ, mkFs, newSl, resS, teS, resV, opK, putK, storeK, softS, eqC, eqCs, callS, moveS, loadS, nilS, binV, binS, unS, convS, faS, fldS, iaS, ixS, slS, lenS, buildS, fillS, extS, ifS, capsS, boundS, strLen, minS, maxS, pickS, plainS, oneS, onesS, cellsS, ev, evs, getS, ofVal, takeN, takeAt, layN, nthS, setN, snoc, lenN, unw, memN, trimS, TE.sv, argS, cxOf, lays, ↓reduceIte, reduceCtorEq, Value.oneCell', Nat.reduceEqDiff, Nat.reduceAdd, Nat.reduceLT, Nat.reduceBEq, Nat.reduceSub, Nat.reduceLeDiff, e00, e01, e02, e03, e04, e05, e06, e07, e08, e09, e10, e11, e12, e13, e14, e15, e16, e17, e18, e19, e20, e21, e22, e23, e24, e25, e26, e27, e28, e29, e30, e31, e32, e33, e34, cE, cOE, hcs, hap, killE, deadOf, rwE, cD, cO, consD, gdS, eqB, newC, mkV, storeC, firstN, snocAll, appAll, dropN, repN, putSl, slAt, allL, lvC, softC, ckD, ckO, hcallC, wfC, wfL, wfE, wfV, hP, hk, res5, kp5, lwC, rowKeyB, c1, p3, p0, p1, Int.toNat_natCast, Nat.mul_one, ft, fk, fn, getKC, rcS, steq_cm, true_and, bne_self_eq_false, beq_self_eq_true, Bool.and_self, Bool.and_true, Bool.not_true])
      exact hJ ⟨i + 1, by omega⟩ _ (by show ks.length - (i + 1) < ks.length - i; omega) (sub_mk ⟨rfl, rfl, rfl, rfl, rfl, rfl, rfl, trivial⟩)
    · have c1 : decide ((i : Int) < ((ks.length : Nat) : Int)) = false := decide_eq_false (by omega)
      (refine VT_ok hctr (rs := res5) true 300 _ _ _ ?_; simp (config := { maxSteps := 1000000 }) only [VT, f00, f01, opG_t, opG_f, putG_t, putG_f, VC, appL, repZ, mkFs, newSl, resS, teS, resV, opK, putK, storeK, softS, eqC, eqCs, callS, moveS, loadS, nilS, binV, binS, unS, convS, faS, fldS, iaS, ixS, slS, lenS, buildS, fillS, extS, ifS, capsS, boundS, strLen, minS, maxS, pickS, plainS, oneS, onesS, cellsS, ev, evs, getS, ofVal, takeN, takeAt, layN, nthS, setN, snoc, lenN, unw, memN, trimS, TE.sv, argS, cxOf, lays, ↓reduceIte, reduceCtorEq, Value.oneCell', Nat.reduceEqDiff, Nat.reduceAdd, Nat.reduceLT, Nat.reduceBEq, Nat.reduceSub, Nat.reduceLeDiff, e00, e01, e02, e03, e04, e05, e06, e07, e08, e09, e10, e11, e12, e13, e14, e15, e16, e17, e18, e19, e20, e21, e22, e23, e24, e25, e26, e27, e28, e29, e30, e31, e32, e33, e34, cE, cOE, hcs, hap, killE, deadOf, rwE, cD, cO, consD, gdS, eqB, newC, mkV, storeC, firstN, snocAll, appAll, dropN, repN, putSl, slAt, allL, lvC, softC, ckD, ckO, hcallC, wfC, wfL, wfE, wfV, hP, hk, res5, kp5, slK2, enK2, rwE, rwK, lwC, rowKeyB, c1])
      refine hX rfl rfl ?_
      have hP := hP0; have hk := hk0; have hctr := hctr0
      (refine VT_ok hctr (rs := res5) true 300 _ _ _ ?_; simp (config := { maxSteps := 1000000 }) only [VT, f00, f01, opG_t, opG_f, putG_t, putG_f, VC, appL, repZ, mkFs, newSl, resS, teS, resV, opK, putK, storeK, softS, eqC, eqCs, callS, moveS, loadS, nilS, binV, binS, unS, convS, faS, fldS, iaS, ixS, slS, lenS, buildS, fillS, extS, ifS, capsS, boundS, strLen, minS, maxS, pickS, plainS, oneS, onesS, cellsS, ev, evs, getS, ofVal, takeN, takeAt, layN, nthS, setN, snoc, lenN, unw, memN, trimS, TE.sv, argS, cxOf, lays, ↓reduceIte, reduceCtorEq, Value.oneCell', Nat.reduceEqDiff, Nat.reduceAdd, Nat.reduceLT, Nat.reduceBEq, Nat.reduceSub, Nat.reduceLeDiff, e00, e01, e02, e03, e04, e05, e06, e07, e08, e09, e10, e11, e12, e13, e14, e15, e16, e17, e18, e19, e20, e21, e22, e23, e24, e25, e26, e27, e28, e29, e30, e31, e32, e33, e34, cE, cOE, hcs, hap, killE, deadOf, rwE, cD, cO, consD, gdS, eqB, newC, mkV, storeC, firstN, snocAll, appAll, dropN, repN, putSl, slAt, allL, lvC, softC, ckD, ckO, hcallC, wfC, wfL, wfE, wfV, hP, hk, res5, kp5, lwC, rowKeyB, c1])
      exact fin _
theorem keys_tt {w : World} {a : Option Addr} {n c : Nat} {ws : List (List UInt8)} (hraw : RawS w w.heap.size a ws) (hn : ws.length = n) (hc : n ≤ c) (h63 : n ≤ 9223372036854775807) (hl : ∀ x ∈ ws, x.length ≤ 9223372036854775807) (hE0 : EnvT w) :
    Calls Tryz.prog 5 #[.slice a n c, .bool true, .bool true] w fun e w' => e = .returned (.bool true) ∧ Below w.heap.size w w' := by
  refine calls_of_Run Tryz.func5 rfl kp5 (S := Non) (ρ := fun _ => reOf 0) (en := []) [.c (.v (.slice a n c)), .c (.b true), .c (.b true)] Tryz.ntmps5 (At.nil _ _ _) (by simp [SV.wf, SC.wf]) (by simp) ?_
  intro C hC hP hk
  have hE : ∀ w', Upd C.S C.w0 w' → EnvT w' := fun w' hu => by rw [hC] at hu; exact hE0.below hu.to_below
  have hctr := lwC_ok hP hE
  have hn0 : C.n0 = 0 := by rw [hC]; rfl
  have fin : ∀ en, Fin C res5 (.c (.b true)) en := fun en => Fin_ro (v := .c (.b true)) hC hres5 rfl trivial
  have hr : ∀ (k : Nat) x, ws[k]? = some x → ∃ b o, a = some ⟨b, o, none⟩ ∧ C.rd b (o + k) 1 = some [.s x] := fun k x hx => hraw.rd (D := C) (by rw [hC]; exact fun k hk => hk.elim) (by rw [hC]; rfl) hx
  (refine VT_ok hctr (rs := res5) true 300 _ _ _ ?_; simp (config := { maxSteps := 1000000 }) only [VT, f00, f01, opG_t, opG_f, putG_t, putG_f, VC, appL, repZ, mkFs, newSl, resS, teS, resV, opK, putK, storeK, softS, eqC, eqCs, callS, moveS, loadS, nilS, binV, binS, unS, convS, faS, fldS, iaS, ixS, slS, lenS, buildS, fillS, extS, ifS, capsS, boundS, strLen, minS, maxS, pickS, plainS, oneS, onesS, cellsS, ev, evs, getS, ofVal, takeN, takeAt, layN, nthS, setN, snoc, lenN, unw, memN, trimS, TE.sv, argS, cxOf, lays, ↓reduceIte, reduceCtorEq, Value.oneCell', Nat.reduceEqDiff, Nat.reduceAdd, Nat.reduceLT, Nat.reduceBEq, Nat.reduceSub, Nat.reduceLeDiff, e00, e01, e02, e03, e04, e05, e06, e07, e08, e09, e10, e11, e12, e13, e14, e15, e16, e17, e18, e19, e20, e21, e22, e23, e24, e25, e26, e27, e28, e29, e30, e31, e32, e33, e34, cE, cOE, hcs, hap, killE, deadOf, rwE, cD, cO, consD, gdS, eqB, newC, mkV, storeC, firstN, snocAll, appAll, dropN, repN, putSl, slAt, allL, lvC, softC, ckD, ckO, hcallC, wfC, wfL, wfE, wfV, hP, hk, res5, kp5, lwC, rowKeyB])
  refine Run_nilrowG true (en' := []) (sl' := slK a n c true true 0 []) (9, 0, rowP 1 0 0) rfl (fun _ => ⟨rfl, .inr ⟨rfl, rfl, rfl⟩⟩) (fun _ => by show ¬ (9 : Nat) = DEAD; decide) ?_ ?_ ?_
  · trivial
  · refine ⟨⟨⟨_, rfl, fun ρ h => rfl⟩, ?_⟩, ⟨⟨_, rfl, fun ρ h => rfl⟩, ?_⟩, ⟨⟨_, rfl, fun ρ h => ?_⟩, ?_⟩, ⟨⟨_, rfl, fun ρ h => rfl⟩, ?_⟩, ⟨⟨_, rfl, fun ρ h => rfl⟩, ?_⟩, ⟨⟨_, rfl, fun ρ h => rfl⟩, ?_⟩, ⟨⟨_, rfl, fun ρ h => rfl⟩, ?_⟩, ⟨⟨_, rfl, fun ρ h => rfl⟩, ?_⟩, trivial⟩
    case refine_3 => have h : (ρ 0).nl = some none := h; simp only [SV.den, SC.den, List.length_nil, rwOf_off h]
    all_goals simp [SV.wf, SC.wf, lenN]
  refine Run_loopE 0 (ι := { j : Nat // j ≤ n ∧ j ≤ 7 }) (κ := { j : Nat // j ≤ n ∧ j ≤ 7 }) (fun j => slK a n c true true j.1 (gkK ws j.1)) (fun j => [rwK (gkK ws j.1)]) (fun j => 7 - j.1) ⟨0, Nat.zero_le _, Nat.zero_le _⟩ (sub_mk ⟨rfl, rfl, rfl, rfl, rfl, rfl, rfl, rfl, trivial⟩) rfl (fun j => slKx true true (gkK ws j.1)) (fun j => [rwK (gkK ws j.1)]) rfl ?_ ?_
  rotate_left
  rintro ⟨j, hjn, hj7⟩ D dP dS dw dn dr dk ddf dPan dRet hX _ hJ
  have hP0 := hP; have hk0 := hk; have hctr0 := hctr
  have hP : D.P = Tryz.prog := by rw [dP]; exact hP0
  have hk : D.kp = kp5 := by rw [dk]; exact hk0
  have hctr : CtrOk D lwC := lwC_ok hP (by rw [dS, dw]; exact hE)
  show Run D _ _ (slK a n c true true j (gkK ws j)) [rwK (gkK ws j)]
  obtain ⟨ks, hks⟩ : ∃ ks, gkK ws j = ks := ⟨_, rfl⟩
  have hka := gkK_all ws j
  have hkl := gkK_len ws j
  rw [hks] at hka hkl ⊢
  have hjl := kJ_le (tokens := true) hka (by omega)
  by_cases hjm : j < n ∧ j < 7
  · obtain ⟨x, hx⟩ : ∃ x, ws[j]? = some x := ⟨_, List.getElem?_eq_getElem (by omega)⟩
    have c1 : decide ((j : Int) < ((n : Nat) : Int)) = true := decide_eq_true (by omega)
    have c2 : decide ((j : Int) < 7) = true := decide_eq_true (by omega)
    have p3 : IntKind.i64.wrap ((j : Int) + 1) = ((j + 1 : Nat) : Int) := by rw [IntWalk.i64_in _ (by omega)]; rfl
    have lx := hl x (List.mem_of_getElem? hx)
    have p0 : (0 : Int) ≤ (j : Int) := by omega
    have p1 : (j : Int) < ((n : Nat) : Int) := by omega
    obtain ⟨b0, oo, ha, hrx⟩ := hr j x hx
    subst ha
    have hrx : D.rd b0 (oo + j) 1 = some [.s x] := by rw [show D.rd = C.rd by unfold Cx.rd; rw [dS, dw]]; exact hrx
    cases hkb : keyB x with
    | false =>
      (refine VT_ok hctr (rs := res5) true 300 _ _ _ ?_; simp (config := { maxSteps := 1000000 }) only [VT, f00, f01, opG_t, opG_f, putG_t, putG_f, VC, appL, repZ, mkFs, newSl, resS, teS, resV, opK, putK, storeK, softS, eqC, eqCs, callS, moveS, loadS, nilS, binV, binS, unS, convS, faS, fldS, iaS, ixS, slS, lenS, buildS, fillS, extS, ifS, capsS, boundS, strLen, minS, maxS, pickS, plainS, oneS, onesS, cellsS, ev, evs, getS, ofVal, takeN, takeAt, layN, nthS, setN, snoc, lenN, unw, memN, trimS, TE.sv, argS, cxOf, lays, ↓reduceIte, reduceCtorEq, Value.oneCell', Nat.reduceEqDiff, Nat.reduceAdd, Nat.reduceLT, Nat.reduceBEq, Nat.reduceSub, Nat.reduceLeDiff, e00, e01, e02, e03, e04, e05, e06, e07, e08, e09, e10, e11, e12, e13, e14, e15, e16, e17, e18, e19, e20, e21, e22, e23, e24, e25, e26, e27, e28, e29, e30, e31, e32, e33, e34, cE, cOE, hcs, hap, killE, deadOf, rwE, cD, cO, consD, gdS, eqB, newC, mkV, storeC, firstN, snocAll, appAll, dropN, repN, putSl, slAt, allL, lvC, softC, ckD, ckO, hcallC, wfC, wfL, wfE, wfV, hP, hk, res5, kp5, slK, rwK, rwE, lwC, rowKeyB, c1, c2, p3, p0, p1, hrx, hkb, lx, Int.toNat_natCast, Nat.mul_one])
      have e1 : gkK ws (j + 1) = ks := by rw [gkK_no hx hkb, hks]
      have hJ' := fun s => hJ ⟨j + 1, by omega, by omega⟩ s (by show 7 - (j + 1) < 7 - j; omega)
      simp only [e1] at hJ'
      exact hJ' _ (sub_mk ⟨rfl, rfl, rfl, rfl, rfl, rfl, rfl, rfl, trivial⟩)
    | true =>
      (refine VT_ok hctr (rs := res5) true 300 _ _ _ ?_; simp (config := { maxSteps := 1000000 }) only [VT, f00, f01, opG_t, opG_f, putG_t, putG_f, VC, appL, repZ, mkFs, newSl, resS, teS, resV, opK, putK, storeK, softS, eqC, eqCs, callS, moveS, loadS, nilS, binV, binS, unS, convS, faS, fldS, iaS, ixS, slS, lenS, buildS, fillS, extS, ifS, capsS, boundS, strLen, minS, maxS, pickS, plainS, oneS, onesS, cellsS, ev, evs, getS, ofVal, takeN, takeAt, layN, nthS, setN, snoc, lenN, unw, memN, trimS, TE.sv, argS, cxOf, lays, ↓reduceIte, reduceCtorEq, Value.oneCell', Nat.reduceEqDiff, Nat.reduceAdd, Nat.reduceLT, Nat.reduceBEq, Nat.reduceSub, Nat.reduceLeDiff, e00, e01, e02, e03, e04, e05, e06, e07, e08, e09, e10, e11, e12, e13, e14, e15, e16, e17, e18, e19, e20, e21, e22, e23, e24, e25, e26, e27, e28, e29, e30, e31, e32, e33, e34, cE, cOE, hcs, hap, killE, deadOf, rwE, cD, cO, consD, gdS, eqB, newC, mkV, storeC, firstN, snocAll, appAll, dropN, repN, putSl, slAt, allL, lvC, softC, ckD, ckO, hcallC, wfC, wfL, wfE, wfV, hP, hk, res5, kp5, slK, rwK, rwE, lwC, rowKeyB, c1, c2, p3, p0, p1, hrx, hkb, lx, Int.toNat_natCast, Nat.mul_one])
      obtain ⟨i0, hi, hz0, hz1, hz2⟩ := info_parts infoStrK
      refine append_op (t := 24) (e := 9) (z := 1) (n := ks.length) (m := 1) (bts := 16) (X := .rw 0 ks.length) (Y := .sl 1 0 1 1) (cells := flatG (fun x => [SC.s x]) ks) (news := [.s x]) (o := some 0) (by rw [hP]; exact Tryz.underlying24) (by rw [hP]; exact hi) hz0 hz1 hz2 rfl (by decide) (by show ¬ (9 : Nat) = DEAD; decide) (.some rfl) rfl rfl (src_sl (L := 1) rfl rfl) rfl rfl (fun pr => by intro y hy; simp only [List.mem_cons, List.not_mem_nil, or_false] at hy; subst hy; trivial) (by omega) (by omega) (by rw [dn, hn0]; exact Nat.zero_le _) rfl (by simp) ?_
      rw [rwK_app]
      have kx := key_le hkb
      have hjs : kJ true ks ++ [32] ++ x = kJ true (gkK ws (j + 1)) := by rw [gkK_yes hx hkb, hks]; unfold kJ; rw [joinB_snoc]; simp
      (refine VT_ok hctr (rs := res5) true 300 _ _ _ ?_; simp (config := { maxSteps := 1000000 }) only [VT, f00, f01, opG_t, opG_f, putG_t, putG_f, VC, appL, repZ, mkFs, newSl, resS, teS, resV, opK, putK, storeK, softS, eqC, eqCs, callS, moveS, loadS, nilS, binV, binS, unS, convS, faS, fldS, iaS, ixS, slS, lenS, buildS, fillS, extS, ifS, capsS, boundS, strLen, minS, maxS, pickS, plainS, oneS, onesS, cellsS, ev, evs, getS, ofVal, takeN, takeAt, layN, nthS, setN, snoc, lenN, unw, memN, trimS, TE.sv, argS, cxOf, lays, ↓reduceIte, reduceCtorEq, Value.oneCell', Nat.reduceEqDiff, Nat.reduceAdd, Nat.reduceLT, Nat.reduceBEq, Nat.reduceSub, Nat.reduceLeDiff, e00, e01, e02, e03, e04, e05, e06, e07, e08, e09, e10, e11, e12, e13, e14, e15, e16, e17, e18, e19, e20, e21, e22, e23, e24, e25, e26, e27, e28, e29, e30, e31, e32, e33, e34, cE, cOE, hcs, hap, killE, deadOf, rwE, cD, cO, consD, gdS, eqB, newC, mkV, storeC, firstN, snocAll, appAll, dropN, repN, putSl, slAt, allL, lvC, softC, ckD, ckO, hcallC, wfC, wfL, wfE, wfV, hP, hk, res5, kp5, slK, lwC, rowKeyB, c1, c2, p3, p0, p1, hrx, hkb, lx, Int.toNat_natCast, Nat.mul_one, killE, deadOf, hjs])
      refine ⟨by omega, by rw [List.length_append]; simp only [List.length_cons, List.length_nil]; omega, ?_⟩
      have hk1 : gkK ws (j + 1) = ks ++ [x] := by rw [gkK_yes hx hkb, hks]
      have hJ' := hJ ⟨j + 1, by omega, by omega⟩ (slK (some ⟨b0, oo, none⟩) n c true true (j + 1) (gkK ws (j + 1))) (by show 7 - (j + 1) < 7 - j; omega) (fun d v h => h)
      rw [hk1] at hJ' ⊢
      refine Run_keepN (f := fun c => 2) (enK := [rwK (ks ++ [x])]) (slK := slK (some ⟨b0, oo, none⟩) n c true true (j + 1) (ks ++ [x])) ⟨fun q hq => ?_, ?_⟩ ?_ ?_ ?_ hJ'
      · exact absurd hq (by rw [dn, hn0]; exact Nat.not_lt_zero _)
      · rw [dn, hn0]; exact Nat.zero_le _
      · intro p q hp hq h
        have hp : p < 1 := hp
        have hq : q < 1 := hq
        omega
      · refine ⟨⟨_, rfl, fun ρ => ?_, ?_⟩, trivial⟩
        · exact flatS_den _ _ _
        · intro y hy
          have hy : y ∈ flatG (fun x => [SC.s x]) (ks ++ [x]) := hy
          simp only [flatG, List.mem_flatMap, List.mem_cons, List.not_mem_nil, or_false] at hy
          obtain ⟨_, _, rfl⟩ := hy; trivial
      · refine ⟨⟨?_, _, rfl, fun ρ => rfl⟩, ⟨?_, _, rfl, fun ρ => rfl⟩, ⟨?_, _, rfl, fun ρ => ?_⟩, ⟨?_, _, rfl, fun ρ => rfl⟩, ⟨?_, _, rfl, fun ρ => rfl⟩, ⟨?_, _, rfl, fun ρ => rfl⟩, ⟨?_, _, rfl, fun ρ => rfl⟩, ⟨?_, _, rfl, fun ρ => rfl⟩, trivial⟩
        all_goals simp [SV.wf, SC.wf, SV.den, SC.den]
  · have hx0 := hX ⟨j, hjn, hj7⟩
    simp only [hks] at hx0
    by_cases hjn' : j < n
    · have c1 : decide ((j : Int) < ((n : Nat) : Int)) = true := decide_eq_true (by omega)
      have c2 : decide ((j : Int) < 7) = false := decide_eq_false (by omega)
      (refine VT_ok hctr (rs := res5) true 300 _ _ _ ?_; simp (config := { maxSteps := 1000000 }) only [VT, f00, f01, opG_t, opG_f, putG_t, putG_f, VC, appL, repZ, mkFs, newSl, resS, teS, resV, opK, putK, storeK, softS, eqC, eqCs, callS, moveS, loadS, nilS, binV, binS, unS, convS, faS, fldS, iaS, ixS, slS, lenS, buildS, fillS, extS, ifS, capsS, boundS, strLen, minS, maxS, pickS, plainS, oneS, onesS, cellsS, ev, evs, getS, ofVal, takeN, takeAt, layN, nthS, setN, snoc, lenN, unw, memN, trimS, TE.sv, argS, cxOf, lays, ↓reduceIte, reduceCtorEq, Value.oneCell', Nat.reduceEqDiff, Nat.reduceAdd, Nat.reduceLT, Nat.reduceBEq, Nat.reduceSub, Nat.reduceLeDiff, e00, e01, e02, e03, e04, e05, e06, e07, e08, e09, e10, e11, e12, e13, e14, e15, e16, e17, e18, e19, e20, e21, e22, e23, e24, e25, e26, e27, e28, e29, e30, e31, e32, e33, e34, cE, cOE, hcs, hap, killE, deadOf, rwE, cD, cO, consD, gdS, eqB, newC, mkV, storeC, firstN, snocAll, appAll, dropN, repN, putSl, slAt, allL, lvC, softC, ckD, ckO, hcallC, wfC, wfL, wfE, wfV, hP, hk, res5, kp5, slK, rwK, rwE, lwC, rowKeyB, c1, c2])
      exact hx0 _ _ rfl (sub_mk ⟨rfl, rfl, rfl, rfl, rfl, rfl, trivial⟩)
    · have c1 : decide ((j : Int) < ((n : Nat) : Int)) = false := decide_eq_false (by omega)
      (refine VT_ok hctr (rs := res5) true 300 _ _ _ ?_; simp (config := { maxSteps := 1000000 }) only [VT, f00, f01, opG_t, opG_f, putG_t, putG_f, VC, appL, repZ, mkFs, newSl, resS, teS, resV, opK, putK, storeK, softS, eqC, eqCs, callS, moveS, loadS, nilS, binV, binS, unS, convS, faS, fldS, iaS, ixS, slS, lenS, buildS, fillS, extS, ifS, capsS, boundS, strLen, minS, maxS, pickS, plainS, oneS, onesS, cellsS, ev, evs, getS, ofVal, takeN, takeAt, layN, nthS, setN, snoc, lenN, unw, memN, trimS, TE.sv, argS, cxOf, lays, ↓reduceIte, reduceCtorEq, Value.oneCell', Nat.reduceEqDiff, Nat.reduceAdd, Nat.reduceLT, Nat.reduceBEq, Nat.reduceSub, Nat.reduceLeDiff, e00, e01, e02, e03, e04, e05, e06, e07, e08, e09, e10, e11, e12, e13, e14, e15, e16, e17, e18, e19, e20, e21, e22, e23, e24, e25, e26, e27, e28, e29, e30, e31, e32, e33, e34, cE, cOE, hcs, hap, killE, deadOf, rwE, cD, cO, consD, gdS, eqB, newC, mkV, storeC, firstN, snocAll, appAll, dropN, repN, putSl, slAt, allL, lvC, softC, ckD, ckO, hcallC, wfC, wfL, wfE, wfV, hP, hk, res5, kp5, slK, rwK, rwE, lwC, rowKeyB, c1])
      exact hx0 _ _ rfl (sub_mk ⟨rfl, rfl, rfl, rfl, rfl, rfl, trivial⟩)
  rintro ⟨j, hjn, hj7⟩
  show Run C _ _ (slKx true true (gkK ws j)) [rwK (gkK ws j)]
  have hka := gkK_all ws j
  have hkl := gkK_len ws j
  obtain ⟨ks, hks⟩ : ∃ ks, gkK ws j = ks := ⟨_, rfl⟩
  rw [hks] at hka hkl ⊢
  have hkl : ks.length ≤ 7 := by omega
  have hjl := kJ_le (tokens := true) hka hkl
  by_cases hne : ks = []
  · subst hne
    (refine VT_ok hctr (rs := res5) true 300 _ _ _ ?_; simp (config := { maxSteps := 1000000 }) only [VT, f00, f01, opG_t, opG_f, putG_t, putG_f, VC, appL, repZ, mkFs, newSl, resS, teS, resV, opK, putK, storeK, softS, eqC, eqCs, callS, moveS, loadS, nilS, binV, binS, unS, convS, faS, fldS, iaS, ixS, slS, lenS, buildS, fillS, extS, ifS, capsS, boundS, strLen, minS, maxS, pickS, plainS, oneS, onesS, cellsS, ev, evs, getS, ofVal, takeN, takeAt, layN, nthS, setN, snoc, lenN, unw, memN, trimS, TE.sv, argS, cxOf, lays, ↓reduceIte, reduceCtorEq, Value.oneCell', Nat.reduceEqDiff, Nat.reduceAdd, Nat.reduceLT, Nat.reduceBEq, Nat.reduceSub, Nat.reduceLeDiff, e00, e01, e02, e03, e04, e05, e06, e07, e08, e09, e10, e11, e12, e13, e14, e15, e16, e17, e18, e19, e20, e21, e22, e23, e24, e25, e26, e27, e28, e29, e30, e31, e32, e33, e34, cE, cOE, hcs, hap, killE, deadOf, rwE, cD, cO, consD, gdS, eqB, newC, mkV, storeC, firstN, snocAll, appAll, dropN, repN, putSl, slAt, allL, lvC, softC, ckD, ckO, hcallC, wfC, wfL, wfE, wfV, hP, hk, res5, kp5, slKx, rwK, rwE, lwC, rowKeyB])
    refine ⟨by omega, ?_⟩
    refine Run_parse _ (ps_nokeys true) (by simp only [List.length_append, List.length_cons, List.length_nil]; omega) hP hE (by rw [hn0]; exact Nat.zero_le _) rfl (by simp) ?_
    have z1 : (((0 : Nat) : Int) == 0) = true := rfl
    (refine VT_ok hctr (rs := res5) true 300 _ _ _ ?_; simp (config := { maxSteps := 1000000 }) only [VT, f00, f01, opG_t, opG_f, putG_t, putG_f, VC, appL, repZ, mkFs, newSl, resS, teS, resV, opK, putK, storeK, softS, eqC, eqCs, callS, moveS, loadS, nilS, binV, binS, unS, convS, faS, fldS, iaS, ixS, slS, lenS, buildS, fillS, extS, ifS, capsS, boundS, strLen, minS, maxS, pickS, plainS, oneS, onesS, cellsS, ev, evs, getS, ofVal, takeN, takeAt, layN, nthS, setN, snoc, lenN, unw, memN, trimS, TE.sv, argS, cxOf, lays, ↓reduceIte, reduceCtorEq, Value.oneCell', Nat.reduceEqDiff, Nat.reduceAdd, Nat.reduceLT, Nat.reduceBEq, Nat.reduceSub, Nat.reduceLeDiff, e00, e01, e02, e03, e04, e05, e06, e07, e08, e09, e10, e11, e12, e13, e14, e15, e16, e17, e18, e19, e20, e21, e22, e23, e24, e25, e26, e27, e28, e29, e30, e31, e32, e33, e34, cE, cOE, hcs, hap, killE, deadOf, rwE, cD, cO, consD, gdS, eqB, newC, mkV, storeC, firstN, snocAll, appAll, dropN, repN, putSl, slAt, allL, lvC, softC, ckD, ckO, hcallC, wfC, wfL, wfE, wfV, hP, hk, res5, kp5, lwC, rowKeyB, psV, psE, rqS, badR, f_unknown, z1, beq_self_eq_true])
    exact fin _
  · (refine VT_ok hctr (rs := res5) true 300 _ _ _ ?_; simp (config := { maxSteps := 1000000 }) only [VT, f00, f01, opG_t, opG_f, putG_t, putG_f, VC, appL, repZ, mkFs, newSl, resS, teS, resV, opK, putK, storeK, softS, eqC, eqCs, callS, moveS, loadS, nilS, binV, binS, unS, convS, faS, fldS, iaS, ixS, slS, lenS, buildS, fillS, extS, ifS, capsS, boundS, strLen, minS, maxS, pickS, plainS, oneS, onesS, cellsS, ev, evs, getS, ofVal, takeN, takeAt, layN, nthS, setN, snoc, lenN, unw, memN, trimS, TE.sv, argS, cxOf, lays, ↓reduceIte, reduceCtorEq, Value.oneCell', Nat.reduceEqDiff, Nat.reduceAdd, Nat.reduceLT, Nat.reduceBEq, Nat.reduceSub, Nat.reduceLeDiff, e00, e01, e02, e03, e04, e05, e06, e07, e08, e09, e10, e11, e12, e13, e14, e15, e16, e17, e18, e19, e20, e21, e22, e23, e24, e25, e26, e27, e28, e29, e30, e31, e32, e33, e34, cE, cOE, hcs, hap, killE, deadOf, rwE, cD, cO, consD, gdS, eqB, newC, mkV, storeC, firstN, snocAll, appAll, dropN, repN, putSl, slAt, allL, lvC, softC, ckD, ckO, hcallC, wfC, wfL, wfE, wfV, hP, hk, res5, kp5, slKx, rwK, rwE, lwC, rowKeyB])
    refine ⟨by omega, ?_⟩
    refine Run_parse _ (ps_keys (tokens := true) hka hkl hne) (by simp only [List.length_append, List.length_cons, List.length_nil]; omega) hP hE (by rw [hn0]; exact Nat.zero_le _) rfl (by simp) ?_
    have hm0 : ks.length ≠ 0 := fun h => hne (List.eq_nil_of_length_eq_zero h)
    have z1 : (((ks.length : Nat) : Int) == 0) = false := by simp only [beq_eq_false_iff_ne, ne_eq]; omega
    have z2 : IntKind.i64.wrap ((((kJ true ks).length : Nat) : Int) + 1) = (((kJ true ks).length : Nat) : Int) + 1 := by rw [IntWalk.i64_in _ (by omega)]
    (refine VT_ok hctr (rs := res5) true 300 _ _ _ ?_; simp (config := { maxSteps := 1000000 }) only [VT, f00, f01, opG_t, opG_f, putG_t, putG_f, VC, appL, repZ, mkFs, newSl, resS, teS, resV, opK, putK, storeK, softS, eqC, eqCs, callS, moveS, loadS, nilS, binV, binS, unS, convS, faS, fldS, iaS, ixS, slS, lenS, buildS, fillS, extS, ifS, capsS, boundS, strLen, minS, maxS, pickS, plainS, oneS, onesS, cellsS, ev, evs, getS, ofVal, takeN, takeAt, layN, nthS, setN, snoc, lenN, unw, memN, trimS, TE.sv, argS, cxOf, lays, ↓reduceIte, reduceCtorEq, Value.oneCell', Nat.reduceEqDiff, Nat.reduceAdd, Nat.reduceLT, Nat.reduceBEq, Nat.reduceSub, Nat.reduceLeDiff, e00, e01, e02, e03, e04, e05, e06, e07, e08, e09, e10, e11, e12, e13, e14, e15, e16, e17, e18, e19, e20, e21, e22, e23, e24, e25, e26, e27, e28, e29, e30, e31, e32, e33, e34, cE, cOE, hcs, hap, killE, deadOf, rwE, cD, cO, consD, gdS, eqB, newC, mkV, storeC, firstN, snocAll, appAll, dropN, repN, putSl, slAt, allL, lvC, softC, ckD, ckO, hcallC, wfC, wfL, wfE, wfV, hP, hk, res5, kp5, lwC, rowKeyB, psV, psE, rqS, keysR, rwE, List.length_map, z1, z2, bne_self_eq_false])
    refine ⟨Tryz.underlying4, ?_⟩
    refine Run_alias (M := { m : Nat // ks.length ≤ m ∧ m ≤ maxLen } × { m : Nat // ks.length ≤ m ∧ m ≤ maxLen }) (Φ := fun m ρ => (SC.sl 0 0 ks.length m.1.1).den ρ = (SC.rw 0 ks.length).den ρ ∧ (SC.sl 1 0 ks.length m.2.1).den ρ = (SC.rw 1 ks.length).den ρ) (en' := fun m => enK2 true ks m.2.1) (sl' := fun m => slK2 true true ks m.1.1 0) (fun ρ w hw => ?_) (fun m => ?_) (fun m => ?_) ?_
    · obtain ⟨m1, h1⟩ := row_sl (N := 0) (n := ks.length) hw rfl hm0
      obtain ⟨m2, h2⟩ := row_sl (N := 1) (n := ks.length) hw rfl hm0
      exact ⟨(m1, m2), h1, h2⟩
    · refine ⟨⟨rfl, rfl, fun _ _ => rfl, id⟩, ⟨rfl, rfl, fun _ _ => rfl, id⟩, ⟨rfl, rfl, fun ρ h => ?_, fun h => ?_⟩, trivial⟩
      · simp only [dens, List.map_cons, List.map_nil, h.2]
      · intro y hy
        simp only [List.mem_cons, List.not_mem_nil, or_false] at hy
        rcases hy with rfl | rfl | rfl | rfl | rfl | rfl | rfl | rfl | rfl | rfl | rfl <;> first | trivial | (show 1 < _; simp [lenN])
    · refine ⟨⟨_, rfl, fun _ _ => rfl, id⟩, ⟨_, rfl, fun _ _ => rfl, id⟩, ⟨_, rfl, fun _ _ => rfl, id⟩, ⟨_, rfl, fun _ h => h.1, id⟩, ⟨_, rfl, fun _ _ => rfl, id⟩, ⟨_, rfl, fun _ _ => rfl, id⟩, ⟨_, rfl, fun _ _ => rfl, id⟩, trivial⟩
    rintro ⟨⟨m1, hm1, _⟩, ⟨m2, hm2, _⟩⟩
    show Run C _ _ (slK2 true true ks m1 0) (enK2 true ks m2)
    refine Run_loopP (ι := { i : Nat // i ≤ ks.length }) (fun i => slK2 true true ks m1 i.1) (fun _ => enK2 true ks m2) (fun i => ks.length - i.1) ⟨0, Nat.zero_le _⟩ (sub_mk ⟨rfl, rfl, rfl, rfl, rfl, rfl, rfl, trivial⟩) rfl ?_
    rintro ⟨i, hi⟩ D dP dS dw dn dr dk ddf dPan dRet hX hJ
    have hP0 := hP; have hk0 := hk; have hctr0 := hctr
    have hP : D.P = Tryz.prog := by rw [dP]; exact hP0
    have hk : D.kp = kp5 := by rw [dk]; exact hk0
    have hctr : CtrOk D lwC := lwC_ok hP (by rw [dS, dw]; exact hE)
    show Run D _ _ (slK2 true true ks m1 i) (enK2 true ks m2)
    by_cases him : i < ks.length
    · obtain ⟨x, hx⟩ : ∃ x, ks[i]? = some x := ⟨_, List.getElem?_eq_getElem him⟩
      have c1 : decide ((i : Int) < ((ks.length : Nat) : Int)) = true := decide_eq_true (by omega)
      have p3 : IntKind.i64.wrap ((i : Int) + 1) = ((i + 1 : Nat) : Int) := by rw [IntWalk.i64_in _ (by omega)]; rfl
      have p0 : (0 : Int) ≤ (i : Int) := by omega
      have p1 : (i : Int) < ((ks.length : Nat) : Int) := by omega
      have hx2 : (ks.map getKC)[i]? = some (getKC x) := by rw [List.getElem?_map, hx]; rfl
      have ft := flatG_take (z := 16) rcS_len hx2
      have fk := flatG_take (f := fun x => [SC.s x]) (z := 1) (fun _ => rfl) hx
      have fn : nthS (flatG (fun x => [SC.s x]) ks) i = some (SC.s x) := by
        have := flatG_nth (f := fun x => [SC.s x]) (z := 1) (j := 0) (fun _ => rfl) hx (by decide)
        rw [Nat.mul_one, Nat.add_zero] at this
        exact this
      simp only [Nat.mul_one] at fk
      simp only [rcS, getKC] at ft
      (refine VT_ok hctr (rs := res5) true 300 _ _ _ ?_; simp (config := { maxSteps := 1000000 }) only [VT, f00, f01, opG_t, opG_f, putG_t, putG_f, VC, appL, repZ, mkFs, newSl, resS, teS, resV, opK, putK, storeK, softS, eqC, eqCs, callS, moveS, loadS, nilS, binV, binS, unS, convS, faS, fldS, iaS, ixS, slS, lenS, buildS, fillS, extS, ifS, capsS, boundS, strLen, minS, maxS, pickS, plainS, oneS, onesS, cellsS, ev, evs, getS, ofVal, takeN, takeAt, layN, nthS, setN, snoc, lenN, unw, memN, trimS, TE.sv, argS, cxOf, lays, ↓reduceIte, reduceCtorEq, Value.oneCell', Nat.reduceEqDiff, Nat.reduceAdd, Nat.reduceLT, Nat.reduceBEq, Nat.reduceSub, Nat.reduceLeDiff, e00, e01, e02, e03, e04, e05, e06, e07, e08, e09, e10, e11, e12, e13, e14, e15, e16, e17, e18, e19, e20, e21, e22, e23, e24, e25, e26, e27, e28, e29, e30, e31, e32, e33, e34, cE, cOE, hcs, hap, killE, deadOf, rwE, cD, cO, consD, gdS, eqB, newC, mkV, storeC, firstN, snocAll, appAll, dropN, repN, putSl, slAt, allL, lvC, softC, ckD, ckO, hcallC, wfC, wfL, wfE, wfV, hP, hk, res5, kp5, slK2, enK2, rwE, rwK, lwC, rowKeyB, c1])
      (refine Run_drawD hctr (by rw [hP]; rfl) rs5_20 [] (ensure_type_of% (Cmp.of (by simp (config := { maxSteps := 1000000 }) only [VC, appL, repZ, mkFs, newSl, resS, teS, resV, opK, putK, storeK, softS, eqC, eqCs, callS, moveS, loadS, nilS, binV, binS, unS, convS, faS, fldS, iaS, ixS, slS, lenS, buildS, fillS, extS, ifS, capsS, boundS, strLen, minS, maxS, pickS, plainS, oneS, onesS, cellsS, ev, evs, getS, ofVal, takeN, takeAt, layN, nthS, setN, snoc, lenN, unw, memN, trimS, TE.sv, argS, cxOf, lays, ↓reduceIte, reduceCtorEq, Value.oneCell', Nat.reduceEqDiff, Nat.reduceAdd, Nat.reduceLT, Nat.reduceBEq, Nat.reduceSub, Nat.reduceLeDiff, e00, e01, e02, e03, e04, e05, e06, e07, e08, e09, e10, e11, e12, e13, e14, e15, e16, e17, e18, e19, e20, e21, e22, e23, e24, e25, e26, e27, e28, e29, e30, e31, e32, e33, e34, cE, cOE, hcs, hap, killE, deadOf, rwE, cD, cO, consD, gdS, eqB, newC, mkV, storeC, firstN, snocAll, appAll, dropN, repN, putSl, slAt, allL, lvC, softC, ckD, ckO, hcallC, wfC, wfL, wfE, wfV, hP, lwC, rowKeyB, c1, p3, p0, p1, Int.toNat_natCast, Nat.mul_one, ft, fk, fn, getKC, rcS, steq_cm, true_and, bne_self_eq_false, beq_self_eq_true, Bool.and_self, Bool.and_true, Bool.not_true]; rfl)) "" Cmp.mk) (by kernel_rfl) (by kernel_rfl) (by first | exact lenB_one _ | kernel_rfl) (by kernel_rfl) (by rfl) (by rfl) (by first | exact firstN_self _ | rfl) (by rfl) (by simp (config := { maxSteps := 1000000 }) only [VC, appL, repZ, mkFs, newSl, resS, teS, resV, opK, putK, storeK, softS, eqC, eqCs, callS, moveS, loadS, nilS, binV, binS, unS, convS, faS, fldS, iaS, ixS, slS, lenS, buildS, fillS, extS, ifS, capsS, boundS, strLen, minS, maxS, pickS, plainS, oneS, onesS, cellsS, ev, evs, getS, ofVal, takeN, takeAt, layN, nthS, setN, snoc, lenN, unw, memN, trimS, TE.sv, argS, cxOf, lays, ↓reduceIte, reduceCtorEq, Value.oneCell', Nat.reduceEqDiff, Nat.reduceAdd, Nat.reduceLT, Nat.reduceBEq, Nat.reduceSub, Nat.reduceLeDiff, e00, e01, e02, e03, e04, e05, e06, e07, e08, e09, e10, e11, e12, e13, e14, e15, e16, e17, e18, e19, e20, e21, e22, e23, e24, e25, e26, e27, e28, e29, e30, e31, e32, e33, e34, cE, cOE, hcs, hap, killE, deadOf, rwE, cD, cO, consD, gdS, eqB, newC, mkV, storeC, firstN, snocAll, appAll, dropN, repN, putSl, slAt, allL, lvC, softC, ckD, ckO, hcallC, wfC, wfL, wfE, wfV, hP, lwC, rowKeyB, c1, p3, p0, p1, Int.toNat_natCast, Nat.mul_one, ft, fk, fn, getKC, rcS, steq_cm, true_and, bne_self_eq_false, beq_self_eq_true, Bool.and_self, Bool.and_true, Bool.not_true]) ?_; refine VT_ok hctr (rs := res5) true 300 _ _ _ ?_; simp (config := { maxSteps := 1000000 }) only [VT, f00, f01, opG_t, opG_f, putG_t, putG_f, VC, appL, repZ, mkFs, newSl, resS, teS, resV, opK, putK, storeK, softS, eqC, eqCs, callS, moveS, loadS, nilS, binV, binS, unS, convS, faS, fldS, iaS, ixS, slS, lenS, buildS, fillS, extS, ifS, capsS, boundS, strLen, minS, maxS, pickS, plainS, oneS, onesS, cellsS, ev, evs, getS, ofVal, takeN, takeAt, layN, nthS, setN, snoc, lenN, unw, memN, trimS, TE.sv, argS, cxOf, lays, ↓reduceIte, reduceCtorEq, Value.oneCell', Nat.reduceEqDiff, Nat.reduceAdd, Nat.reduceLT, Nat.reduceBEq, Nat.reduceSub, Nat.reduceLeDiff, e00, e01, e02, e03, e04, e05, e06, e07, e08, e09, e10, e11, e12, e13, e14, e15, e16, e17, e18, e19, e20, e21, e22, e23, e24, e25, e26, e27, e28, e29, e30, e31, e32, e33, e34, cE, cOE, hcs, hap, killE, deadOf, rwE, cD, cO, consD, gdS, eqB, newC, mkV, storeC, firstN, snocAll, appAll, dropN, repN, putSl, slAt, allL, lvC, softC, ckD, ckO, hcallC, wfC, wfL, wfE, wfV, hP, hk, res5, kp5, lwC, rowKeyB, c1, p3, p0, p1, Int.toNat_natCast, Nat.mul_one, ft, fk, fn, getKC, rcS, steq_cm, true_and, bne_self_eq_false, beq_self_eq_true, Bool.and_self, Bool.and_true, Bool.not_true])
      exact hJ ⟨i + 1, by omega⟩ _ (by show ks.length - (i + 1) < ks.length - i; omega) (sub_mk ⟨rfl, rfl, rfl, rfl, rfl, rfl, rfl, trivial⟩)
    · have c1 : decide ((i : Int) < ((ks.length : Nat) : Int)) = false := decide_eq_false (by omega)
      (refine VT_ok hctr (rs := res5) true 300 _ _ _ ?_; simp (config := { maxSteps := 1000000 }) only [VT, f00, f01, opG_t, opG_f, putG_t, putG_f, VC, appL, repZ, mkFs, newSl, resS, teS, resV, opK, putK, storeK, softS, eqC, eqCs, callS, moveS, loadS, nilS, binV, binS, unS, convS, faS, fldS, iaS, ixS, slS, lenS, buildS, fillS, extS, ifS, capsS, boundS, strLen, minS, maxS, pickS, plainS, oneS, onesS, cellsS, ev, evs, getS, ofVal, takeN, takeAt, layN, nthS, setN, snoc, lenN, unw, memN, trimS, TE.sv, argS, cxOf, lays, ↓reduceIte, reduceCtorEq, Value.oneCell', Nat.reduceEqDiff, Nat.reduceAdd, Nat.reduceLT, Nat.reduceBEq, Nat.reduceSub, Nat.reduceLeDiff, e00, e01, e02, e03, e04, e05, e06, e07, e08, e09, e10, e11, e12, e13, e14, e15, e16, e17, e18, e19, e20, e21, e22, e23, e24, e25, e26, e27, e28, e29, e30, e31, e32, e33, e34, cE, cOE, hcs, hap, killE, deadOf, rwE, cD, cO, consD, gdS, eqB, newC, mkV, storeC, firstN, snocAll, appAll, dropN, repN, putSl, slAt, allL, lvC, softC, ckD, ckO, hcallC, wfC, wfL, wfE, wfV, hP, hk, res5, kp5, slK2, enK2, rwE, rwK, lwC, rowKeyB, c1])
      refine hX rfl rfl ?_
      have hP := hP0; have hk := hk0; have hctr := hctr0
      (refine VT_ok hctr (rs := res5) true 300 _ _ _ ?_; simp (config := { maxSteps := 1000000 }) only [VT, f00, f01, opG_t, opG_f, putG_t, putG_f, VC, appL, repZ, mkFs, newSl, resS, teS, resV, opK, putK, storeK, softS, eqC, eqCs, callS, moveS, loadS, nilS, binV, binS, unS, convS, faS, fldS, iaS, ixS, slS, lenS, buildS, fillS, extS, ifS, capsS, boundS, strLen, minS, maxS, pickS, plainS, oneS, onesS, cellsS, ev, evs, getS, ofVal, takeN, takeAt, layN, nthS, setN, snoc, lenN, unw, memN, trimS, TE.sv, argS, cxOf, lays, ↓reduceIte, reduceCtorEq, Value.oneCell', Nat.reduceEqDiff, Nat.reduceAdd, Nat.reduceLT, Nat.reduceBEq, Nat.reduceSub, Nat.reduceLeDiff, e00, e01, e02, e03, e04, e05, e06, e07, e08, e09, e10, e11, e12, e13, e14, e15, e16, e17, e18, e19, e20, e21, e22, e23, e24, e25, e26, e27, e28, e29, e30, e31, e32, e33, e34, cE, cOE, hcs, hap, killE, deadOf, rwE, cD, cO, consD, gdS, eqB, newC, mkV, storeC, firstN, snocAll, appAll, dropN, repN, putSl, slAt, allL, lvC, softC, ckD, ckO, hcallC, wfC, wfL, wfE, wfV, hP, hk, res5, kp5, lwC, rowKeyB, c1])
      refine ⟨by omega, ?_⟩
      obtain ⟨L, hL⟩ := ps_badkey (tokens := true) hka hkl
      refine Run_parse _ hL (by simp only [List.length_append, List.length_cons, List.length_nil]; omega) hP hE (by rw [hn0]; exact Nat.zero_le _) rfl (by simp) ?_
      (refine VT_ok hctr (rs := res5) true 300 _ _ _ ?_; simp (config := { maxSteps := 1000000 }) only [VT, f00, f01, opG_t, opG_f, putG_t, putG_f, VC, appL, repZ, mkFs, newSl, resS, teS, resV, opK, putK, storeK, softS, eqC, eqCs, callS, moveS, loadS, nilS, binV, binS, unS, convS, faS, fldS, iaS, ixS, slS, lenS, buildS, fillS, extS, ifS, capsS, boundS, strLen, minS, maxS, pickS, plainS, oneS, onesS, cellsS, ev, evs, getS, ofVal, takeN, takeAt, layN, nthS, setN, snoc, lenN, unw, memN, trimS, TE.sv, argS, cxOf, lays, ↓reduceIte, reduceCtorEq, Value.oneCell', Nat.reduceEqDiff, Nat.reduceAdd, Nat.reduceLT, Nat.reduceBEq, Nat.reduceSub, Nat.reduceLeDiff, e00, e01, e02, e03, e04, e05, e06, e07, e08, e09, e10, e11, e12, e13, e14, e15, e16, e17, e18, e19, e20, e21, e22, e23, e24, e25, e26, e27, e28, e29, e30, e31, e32, e33, e34, cE, cOE, hcs, hap, killE, deadOf, rwE, cD, cO, consD, gdS, eqB, newC, mkV, storeC, firstN, snocAll, appAll, dropN, repN, putSl, slAt, allL, lvC, softC, ckD, ckO, hcallC, wfC, wfL, wfE, wfV, hP, hk, res5, kp5, lwC, rowKeyB, psV, psE, rqS, badR, f_format, beq_self_eq_true])
      exact fin _
theorem keys_walk {w : World} {a : Option Addr} {n c : Nat} {ws : List (List UInt8)} (tok bad : Bool) (hraw : RawS w w.heap.size a ws) (hn : ws.length = n) (hc : n ≤ c) (h63 : n ≤ 9223372036854775807) (hl : ∀ x ∈ ws, x.length ≤ 9223372036854775807) (hE0 : EnvT w) :
    Calls Tryz.prog 5 #[.slice a n c, .bool tok, .bool bad] w fun e w' => e = .returned (.bool true) ∧ Below w.heap.size w w' := by
  cases tok <;> cases bad
  · exact keys_ff hraw hn hc h63 hl hE0
  · exact keys_ft hraw hn hc h63 hl hE0
  · exact keys_tf hraw hn hc h63 hl hE0
  · exact keys_tt hraw hn hc h63 hl hE0
end Go.Proofs.YtlbbldcfkalhlaaGreatDoor
