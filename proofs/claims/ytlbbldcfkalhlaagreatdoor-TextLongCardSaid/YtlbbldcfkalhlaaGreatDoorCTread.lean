/- read: a line is read; a fault is recovered from. -/
import Derived.Test.YtlbbldcfkalhlaaGreatDoorCTplain
import Derived.Test.YtlbbldcfkalhlaaGreatDoorCTstore
import Derived.Test.YtlbbldcfkalhlaaGreatDoorBM
namespace Go.Proofs.YtlbbldcfkalhlaaGreatDoor
set_option linter.unusedSimpArgs false
set_option linter.unusedVariables false
set_option linter.unusedSimpArgs false
set_option linter.unusedVariables false
set_option maxHeartbeats 8000000
open Go.RowKit
set_option maxRecDepth 100000

def readF : FuncId := 20
theorem rec_norm (g1 g2 : Nat) (w : World) : CallsD Tryz.prog 31 #[.pointer (some ⟨g1, 0, none⟩), .pointer (some ⟨g2, 0, none⟩)] .returning w fun e u' w' => e = .returned (.tuple #[]) ∧ u' = .returning ∧ Below w.heap.size w w' := by
  refine callsD_Run (nt := 13) Tryz.func31 rfl kp31 (S := Non) (ρ := fun _ => reOf 0) (en := []) [.c (.v (.pointer (some ⟨g1, 0, none⟩))), .c (.v (.pointer (some ⟨g2, 0, none⟩)))] Tryz.ntmps31 (At.nil _ _ _) (by simp [SV.wf, SC.wf]) (by simp) (by decide) (.v .nilIface) rfl trivial ?_
  intro C hC hP hk
  have hctr := noC_ok hP
  (refine VT_ok hctr (rs := res31) true 200 _ _ _ ?_; simp (config := { maxSteps := 1000000 }) only [VT, f00, f01, opG_t, opG_f, putG_t, putG_f, VC, appL, repZ, mkFs, newSl, resS, teS, resV, opK, putK, storeK, softS, eqC, eqCs, callS, moveS, loadS, nilS, binV, binS, unS, convS, faS, fldS, iaS, ixS, slS, lenS, buildS, fillS, extS, ifS, capsS, boundS, strLen, minS, maxS, pickS, plainS, oneS, onesS, cellsS, ev, evs, getS, ofVal, takeN, takeAt, layN, nthS, setN, snoc, lenN, unw, memN, trimS, TE.sv, argS, cxOf, lays, ↓reduceIte, reduceCtorEq, Value.oneCell', Nat.reduceEqDiff, Nat.reduceAdd, Nat.reduceLT, Nat.reduceBEq, Nat.reduceSub, Nat.reduceLeDiff, e00, e01, e02, e03, e04, e05, e06, e07, e08, e09, e10, e11, e12, e13, e14, e15, e16, e17, e18, e19, e20, e21, e22, e23, e24, e25, e26, e27, e28, e29, e30, e31, e32, e33, e34, cE, cOE, hcs, hap, killE, deadOf, rwE, cD, cO, consD, gdS, eqB, newC, mkV, storeC, firstN, snocAll, appAll, dropN, repN, putSl, slAt, allL, lvC, softC, ckD, ckO, hcallC, wfC, wfL, wfE, wfV, hP, hk, res31, kp31, noC])
  refine Run_isnil (b := true) rfl (.inr ⟨_, by rw [hP]; exact Tryz.underlying20⟩) (by rw [hP]; kernel_rfl) (.inl ⟨rfl, rfl⟩) (by decide) ?_
  (refine VT_ok hctr (rs := res31) true 200 _ _ _ ?_; simp (config := { maxSteps := 1000000 }) only [VT, f00, f01, opG_t, opG_f, putG_t, putG_f, VC, appL, repZ, mkFs, newSl, resS, teS, resV, opK, putK, storeK, softS, eqC, eqCs, callS, moveS, loadS, nilS, binV, binS, unS, convS, faS, fldS, iaS, ixS, slS, lenS, buildS, fillS, extS, ifS, capsS, boundS, strLen, minS, maxS, pickS, plainS, oneS, onesS, cellsS, ev, evs, getS, ofVal, takeN, takeAt, layN, nthS, setN, snoc, lenN, unw, memN, trimS, TE.sv, argS, cxOf, lays, ↓reduceIte, reduceCtorEq, Value.oneCell', Nat.reduceEqDiff, Nat.reduceAdd, Nat.reduceLT, Nat.reduceBEq, Nat.reduceSub, Nat.reduceLeDiff, e00, e01, e02, e03, e04, e05, e06, e07, e08, e09, e10, e11, e12, e13, e14, e15, e16, e17, e18, e19, e20, e21, e22, e23, e24, e25, e26, e27, e28, e29, e30, e31, e32, e33, e34, cE, cOE, hcs, hap, killE, deadOf, rwE, cD, cO, consD, gdS, eqB, newC, mkV, storeC, firstN, snocAll, appAll, dropN, repN, putSl, slAt, allL, lvC, softC, ckD, ckO, hcallC, wfC, wfL, wfE, wfV, hP, hk, res31, kp31, noC])
  refine Run_end hC hres31 fun ρ w' hw hn => ⟨rfl, rfl, ?_⟩
  rw [hC] at hw
  exact hw.up.to_below
def reqL (cv : SC) (r : Rq) (b : Bool) (g1 g2 : Nat) : List (Nat × TypeId × List SC × Bool) := [(g1, 26, rqS cv r, true), (g2, 4, [.b b], true)]
theorem req_at {w : World} {g1 g2 : Nat} {cv : Value} {r : Rq} {b : Bool} (h1 : Blk w g1 26 (dens (fun _ => reOf 0) (rqS (.v cv) r)).toArray) (h2 : Blk w g2 4 #[.bool b]) (hne : g1 ≠ g2) : At (Two g1 g2) (roL (reqL (.v cv) r b g1 g2)) (enL (reqL (.v cv) r b g1 g2)) w := by
  refine at_list ?_ ?_
  · intro x hx
    simp only [reqL, List.mem_cons, List.not_mem_nil, or_false] at hx
    rcases hx with rfl | rfl
    · refine ⟨h1, by show ¬ (26 : Nat) = DEAD; decide, ?_, fun _ => .inl rfl⟩
      intro y hy
      simp only [rqS, List.mem_cons, List.not_mem_nil, or_false] at hy
      rcases hy with rfl | rfl | rfl | rfl | rfl | rfl | rfl | rfl | rfl | rfl | rfl <;> trivial
    · refine ⟨h2, by show ¬ (4 : Nat) = DEAD; decide, ?_, fun _ => .inr rfl⟩
      intro y hy
      simp only [List.mem_cons, List.not_mem_nil, or_false] at hy
      subst hy; trivial
  · intro i j x y hi hj he
    match i, j, hi, hj with
    | 0, 0, _, _ => rfl
    | 1, 1, _, _ => rfl
    | 0, 1, hi, hj => simp [reqL] at hi hj; subst hi; subst hj; exact absurd he hne
    | 1, 0, hi, hj => simp [reqL] at hi hj; subst hi; subst hj; exact absurd he.symm hne
    | i + 2, _, hi, _ => simp [reqL] at hi
    | 0, j + 2, _, hj => simp [reqL] at hj
    | 1, j + 2, _, hj => simp [reqL] at hj
theorem rec_fault {g1 g2 : Nat} {w : World} {cv : Value} {r : Rq} {b : Bool} (f : List UInt8) (h1 : Blk w g1 26 (dens (fun _ => reOf 0) (rqS (.v cv) r)).toArray) (h2 : Blk w g2 4 #[.bool b]) (hne : g1 ≠ g2) :
    CallsD Tryz.prog 31 #[.pointer (some ⟨g1, 0, none⟩), .pointer (some ⟨g2, 0, none⟩)] (.panicking (faultE f)) w fun e u' w' => e = .returned (.tuple #[]) ∧ u' = .panicking [{ v := faultV f, recovered := true }] ∧ Upd (Two g1 g2) w w' ∧
      Blk w' g1 26 (dens (fun _ => reOf 0) (rqS (.v (.slice none 0 0)) (badR f))).toArray ∧ Blk w' g2 4 #[.bool false] := by
  refine callsD_Run (nt := 13) Tryz.func31 rfl kp31 (S := Two g1 g2) (ρ := roL (reqL (.v cv) r b g1 g2)) (en := enL (reqL (.v cv) r b g1 g2)) [.c (.p 0 0), .c (.p 1 0)] Tryz.ntmps31 (req_at h1 h2 hne) (by simp [SV.wf, SC.wf, enL, reqL]) (by simp) (by decide) (.v (faultV f)) rfl trivial ?_
  intro C hC hP hk
  have hctr := tC1_ok' hP
  have hm : (recM (.panicking (faultE f))).2 = .panicking [{ v := faultV f, recovered := true }] := rfl
  rw [hm] at hC
  (refine VT_ok hctr (rs := res31) true 200 _ _ _ ?_; simp (config := { maxSteps := 1000000 }) only [VT, f00, f01, opG_t, opG_f, putG_t, putG_f, VC, appL, repZ, mkFs, newSl, resS, teS, resV, opK, putK, storeK, softS, eqC, eqCs, callS, moveS, loadS, nilS, binV, binS, unS, convS, faS, fldS, iaS, ixS, slS, lenS, buildS, fillS, extS, ifS, capsS, boundS, strLen, minS, maxS, pickS, plainS, oneS, onesS, cellsS, ev, evs, getS, ofVal, takeN, takeAt, layN, nthS, setN, snoc, lenN, unw, memN, trimS, TE.sv, argS, cxOf, lays, ↓reduceIte, reduceCtorEq, Value.oneCell', Nat.reduceEqDiff, Nat.reduceAdd, Nat.reduceLT, Nat.reduceBEq, Nat.reduceSub, Nat.reduceLeDiff, e00, e01, e02, e03, e04, e05, e06, e07, e08, e09, e10, e11, e12, e13, e14, e15, e16, e17, e18, e19, e20, e21, e22, e23, e24, e25, e26, e27, e28, e29, e30, e31, e32, e33, e34, cE, cOE, hcs, hap, killE, deadOf, rwE, cD, cO, consD, gdS, eqB, newC, mkV, storeC, firstN, snocAll, appAll, dropN, repN, putSl, slAt, allL, lvC, softC, ckD, ckO, hcallC, wfC, wfL, wfE, wfV, hP, hk, res31, kp31, tCB, rowBad, enL, reqL, rqS, List.map_cons, List.map_nil])
  refine Run_isnil (b := false) rfl (.inr ⟨_, by rw [hP]; exact Tryz.underlying20⟩) (by rw [hP]; kernel_rfl) (.inr ⟨rfl, _, _, rfl⟩) (by decide) ?_
  (refine VT_ok hctr (rs := res31) true 200 _ _ _ ?_; simp (config := { maxSteps := 1000000 }) only [VT, f00, f01, opG_t, opG_f, putG_t, putG_f, VC, appL, repZ, mkFs, newSl, resS, teS, resV, opK, putK, storeK, softS, eqC, eqCs, callS, moveS, loadS, nilS, binV, binS, unS, convS, faS, fldS, iaS, ixS, slS, lenS, buildS, fillS, extS, ifS, capsS, boundS, strLen, minS, maxS, pickS, plainS, oneS, onesS, cellsS, ev, evs, getS, ofVal, takeN, takeAt, layN, nthS, setN, snoc, lenN, unw, memN, trimS, TE.sv, argS, cxOf, lays, ↓reduceIte, reduceCtorEq, Value.oneCell', Nat.reduceEqDiff, Nat.reduceAdd, Nat.reduceLT, Nat.reduceBEq, Nat.reduceSub, Nat.reduceLeDiff, e00, e01, e02, e03, e04, e05, e06, e07, e08, e09, e10, e11, e12, e13, e14, e15, e16, e17, e18, e19, e20, e21, e22, e23, e24, e25, e26, e27, e28, e29, e30, e31, e32, e33, e34, cE, cOE, hcs, hap, killE, deadOf, rwE, cD, cO, consD, gdS, eqB, newC, mkV, storeC, firstN, snocAll, appAll, dropN, repN, putSl, slAt, allL, lvC, softC, ckD, ckO, hcallC, wfC, wfL, wfE, wfV, hP, hk, res31, kp31, tCB, rowBad, enL, reqL, rqS, List.map_cons, List.map_nil])
  refine Run_assert (D := .string) rfl (by rw [hP]; exact Tryz.underlying79) (fun m h => by cases h) rfl (by decide) ?_
  (refine VT_ok hctr (rs := res31) true 200 _ _ _ ?_; simp (config := { maxSteps := 1000000 }) only [VT, f00, f01, opG_t, opG_f, putG_t, putG_f, VC, appL, repZ, mkFs, newSl, resS, teS, resV, opK, putK, storeK, softS, eqC, eqCs, callS, moveS, loadS, nilS, binV, binS, unS, convS, faS, fldS, iaS, ixS, slS, lenS, buildS, fillS, extS, ifS, capsS, boundS, strLen, minS, maxS, pickS, plainS, oneS, onesS, cellsS, ev, evs, getS, ofVal, takeN, takeAt, layN, nthS, setN, snoc, lenN, unw, memN, trimS, TE.sv, argS, cxOf, lays, ↓reduceIte, reduceCtorEq, Value.oneCell', Nat.reduceEqDiff, Nat.reduceAdd, Nat.reduceLT, Nat.reduceBEq, Nat.reduceSub, Nat.reduceLeDiff, e00, e01, e02, e03, e04, e05, e06, e07, e08, e09, e10, e11, e12, e13, e14, e15, e16, e17, e18, e19, e20, e21, e22, e23, e24, e25, e26, e27, e28, e29, e30, e31, e32, e33, e34, cE, cOE, hcs, hap, killE, deadOf, rwE, cD, cO, consD, gdS, eqB, newC, mkV, storeC, firstN, snocAll, appAll, dropN, repN, putSl, slAt, allL, lvC, softC, ckD, ckO, hcallC, wfC, wfL, wfE, wfV, hP, hk, res31, kp31, tCB, rowBad, enL, reqL, rqS, noCmds, badR, List.map_cons, List.map_nil])
  refine Run_end hC hres31 fun ρ w' hw hn => ?_
  have i0 := hw.ini 0 (by rw [hC]; exact Nat.zero_lt_two)
  have i1 := hw.ini 1 (by rw [hC]; exact Nat.one_lt_two)
  have e0 : C.ρ0 0 = reOf g1 := by rw [hC]; rfl
  have e1 : C.ρ0 1 = reOf g2 := by rw [hC]; rfl
  rw [e0] at i0; rw [e1] at i1
  obtain ⟨k1, _⟩ := ent_blk (c := 0) hw.hp hw.ho (by simp) rfl (by decide) (by simp)
  obtain ⟨k2, _⟩ := ent_blk (c := 1) hw.hp hw.ho (by simp) rfl (by decide) (by simp)
  rw [i0] at k1; rw [i1] at k2
  have hup := hw.up
  rw [hC] at hup
  exact ⟨rfl, rfl, hup, k1, k2⟩
end Go.Proofs.YtlbbldcfkalhlaaGreatDoor
