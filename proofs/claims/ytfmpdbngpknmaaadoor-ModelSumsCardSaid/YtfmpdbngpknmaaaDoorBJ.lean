/- Apply as a call in the walk of a law. -/
import Derived.Test.YtfmpdbngpknmaaaDoorCMaply
import Derived.Test.YtfmpdbngpknmaaaDoorBB
import Derived.Test.YtfmpdbngpknmaaaDoorBC
namespace Go.Proofs.YtfmpdbngpknmaaaDoor
set_option linter.unusedSimpArgs false
set_option linter.unusedVariables false
set_option linter.unusedSimpArgs false
set_option linter.unusedVariables false
set_option maxHeartbeats 8000000
open Go.RowKit

/-- states that the walk of Apply takes -/
structure Good (X : St) : Prop where
  sorted : Sorted X.items
  len : X.items.length ≤ 10000000
  bd : ∀ x ∈ X.items, x.key.length ≤ 100000000 ∧ x.val.length ≤ 100000000 ∧ -4398046511104 ≤ x.exp ∧ x.exp ≤ 4398046511104
/-- commands that it takes -/
structure CdOk (c : Cd) : Prop where
  key : c.key.length ≤ 9223372036854775807
  val : c.val.length ≤ 9223372036854775807
  d0 : 0 ≤ c.delta
  d1 : c.delta < 18446744073709551616
  i0 : 0 ≤ c.init
  i1 : c.init < 18446744073709551616
theorem apply_any (X : St) (v : Value) (now : Int) (c : Cd) (most : Int) (w : World) (ho : OwnI 0 w v X.items) (hg : Good X) (hc : CdOk c) (hE : Env w) :
    Calls Tryd.prog 12 #[.agg #[v, .int .u64 X.cas, .int .i64 X.flush], .int .i64 now, .agg (cdA c), .int .i64 most] w (AppR (applyF X now c most) w) := by
  by_cases h : mayB c = true ∧ 1 ≤ now ∧ now ≤ 1099511627776
  · exact apply_ok X v now c most w ho hg.sorted hg.len hc.key hc.val h.1 h.2.1 h.2.2 hc.d0 hc.d1 hc.i0 hc.i1 hE hg.bd
  · have : applyF X now c most = (St.zero, An.zero) := by unfold applyF; rw [if_neg h]
    rw [this]
    exact apply_bad X v now c most w ho hc.key hc.val h

theorem new_src {C : Cx} {ρ : Nat → RE} {pr : Nat → Prop} {en en' : List EN} {w w' : World} {xs : List It} {v' : Value} {N : Nat} (hw : Hw C ρ pr en w) (lN : ¬ pr N) (hn1 : C.n0 ≤ N) (hN : zD en' N = some (srcE xs)) (hq : ∀ q, pr q → zD en' q = zD en q)
    (hb : Below w.heap.size w w') (ho : OwnI w.heap.size w' v' xs) :
    ∃ ρ', (∀ q, pr q → ρ' q = ρ q) ∧ rwOf (ρ' N) xs.length = v' ∧ Hw C ρ' (fun q => pr q ∨ q = N) en' w' := by
  obtain ⟨r, h1, h2, h3, h4, h5⟩ := row_re ho w.heap.size (Nat.le_refl _)
  have hlow : w.heap.size ≤ r.blk := by
    cases hr : r.nl with
    | none => exact (ho.lt _ (h3 hr).1).1
    | some p => rw [h4 (by rw [hr]; simp)]; exact Nat.le_refl _
  have hrow : rowI 0 xs r := h2.imp (fun h => ⟨h.1, Nat.zero_le _, h.2.2⟩) id
  have he := he_row (C := C) (ρ := ρ) (pr := pr) (base := 0) (xs := xs) (N := N) h3
  obtain ⟨k1, k2⟩ := Hw.rebuild (e := srcE xs) (T := Non) r hw lN hn1 (Upd.of_below hb) (fun k _ h => h.elim) (fun q hq' => .inl ⟨hq q hq', fun _ h => h⟩) hN ⟨he.heap, he.wf, fun hd => absurd (show (31 : Nat) = DEAD from hd) (by decide), he.non⟩ ⟨by rw [h5]; rfl, hrow⟩
    (fun _ q hq' hl => by rw [hq q hq'] at hl; have := hw.lt hq' hl; omega) (fun h => by cases h)
  exact ⟨_, k1, by rw [show updR ρ N r N = r from if_pos rfl]; exact h1, k2⟩

/-- a state as a walk has it -/
def StOf (en : List EN) (X : St) (v : SC) : Prop := (v = .v (.slice none 0 0) ∧ X.items = []) ∨ ∃ d, v = .rw d X.items.length ∧ zD en d = some (srcE X.items)
theorem apply_h {C : Cx} {nE N : Nat} {mk : Nat → Prop} {en en' : List EN} {X : St} {now : Int} {c : Cd} {most : Int} {v : SC} (hP : C.P = Tryd.prog) (hE : EnvC C) (hv : StOf en X v) (hg : Good X) (hc : CdOk c) (hn1 : C.n0 ≤ N) (hmk : ∀ q, mk q ↔ q = N)
    (hN : zD en' N = some (srcE (applyF X now c most).1.items)) (hq : ∀ q, q ≠ N → zD en' q = zD en q) :
    HCall C nE mk en en' 12 [.g [v, .i .u64 X.cas, .i .i64 X.flush], .c (.i .i64 now), .g (cdS c), .c (.i .i64 most)] (.t [.g [.rw N (applyF X now c most).1.items.length, .i .u64 (applyF X now c most).1.cas, .i .i64 (applyF X now c most).1.flush], .g (anS (applyF X now c most).2)]) := by
  refine ⟨fun args w => by rw [hP]; exact Tryd.call12 args w, ?_⟩
  intro ρ pr w hpr hmn hw hex hwf
  rw [hP]
  have lN : ¬ pr N := hmn _ ((hmk _).2 rfl)
  have ho : OwnI 0 w (v.den ρ) X.items := by
    rcases hv with ⟨rfl, hx⟩ | ⟨d, rfl, hd⟩
    · exact .inl ⟨none, rfl, hx⟩
    · have h0 : wfs pr [.rw d X.items.length, .i .u64 X.cas, .i .i64 X.flush] := hwf (.g _) (List.mem_cons_self ..)
      exact own_of hw (h0 (.rw d _) (List.mem_cons_self ..)) hd
  refine (apply_any X (v.den ρ) now c most w ho hg hc (hE w hw.up)).mono ?_
  rintro e w' ⟨v', rfl, ho', hb⟩
  obtain ⟨ρ', k1, k2, k3⟩ := new_src hw lN hn1 hN (fun q hq' => hq q (fun h => lN (h ▸ hq'))) hb ho'
  have hsame : (fun q => pr q ∨ mk q) = fun q => pr q ∨ q = N := funext fun q => propext (or_congr_right (hmk q))
  rw [hsame]
  refine ⟨ρ', k1, by rw [← k2]; rfl, ?_, k3, fun q hq' => ?_⟩
  · intro y hy
    simp only [List.mem_cons, List.not_mem_nil, or_false] at hy
    rcases hy with rfl | rfl
    · intro z hz
      simp only [List.mem_cons, List.not_mem_nil, or_false] at hz
      rcases hz with rfl | rfl | rfl
      · exact .inr rfl
      · trivial
      · trivial
    · intro z hz
      simp only [anS, List.mem_cons, List.not_mem_nil, or_false] at hz
      rcases hz with rfl | rfl | rfl | rfl | rfl | rfl | rfl | rfl | rfl | rfl | rfl | rfl | rfl <;> trivial
  · rw [(hmk q).1 hq', hN]; exact fun h => nomatch h

variable {C : Cx} {nt : Nat} {sl : List (Nat × SV)} {k : List KI} {dst : Option Nat} {args : Array Operand} {tys : Array TypeId} {ty : TypeId} {pos : String} {af : Array Edge} {all r : List Oper} {en : List EN}
theorem Run_apply (Y : St × An) {X : St} {now : Int} {c : Cd} {most : Int} {v : SC} (hY : Y = applyF X now c most) (hP : C.P = Tryd.prog) (hE : EnvC C) (hv : StOf en X v) (hg : Good X) (hc : CdOk c) (hn1 : C.n0 ≤ zG en)
    (hxs : qw sl args.toList = some [.g [v, .i .u64 X.cas, .i .i64 X.flush], .c (.i .i64 now), .g (cdS c), .c (.i .i64 most)]) (hdst : ∀ d, dst = some d → d < nt)
    (hK : Run C (.ops all r :: k) nt (jN dst (.t [.g [.rw (zG en) Y.1.items.length, .i .u64 Y.1.cas, .i .i64 Y.1.flush], .g (anS Y.2)]) sl) (zF en (srcE Y.1.items))) :
    Run C (.ops all (⟨dst, .call ⟨.value (.func 12), args, tys⟩, ty, pos, af, none⟩ :: r) :: k) nt sl en := by
  subst hY
  refine Run_hcall hxs _ _ ?_ (by rw [len_snoc]; omega) hdst hK
  exact apply_h hP hE hv hg hc hn1 (mk_new len_snoc) nth_snoc (fun q hq => nth_snoc_ne hq)

/-- a question for a key -/
def getC (key : List UInt8) : Cd := ⟨1, 0, key, [], 0, 0, false, 0, false, 0, 0, false, false, 0, -1, false⟩
def rowGet : List SV → Option (Prop × SV)
  | [.c (.s key)] => some (True, .g (cdS (getC key)))
  | _ => none
set_option maxRecDepth 100000 in
theorem rowGet_ok {en : List EN} {ρ : Nat → RE} {w : World} {xs : List SV} {p : Prop} {v : SV} (h : rowGet xs = some (p, v)) : v.wf (· < en.length) ∧ Calls Tryd.prog 13 (xs.map (SV.den ρ)).toArray w fun e w' => e = .returned (v.den ρ) ∧ Below w.heap.size w w' := by
  unfold rowGet at h
  split at h <;> simp only [Option.some.injEq, Prod.mk.injEq, reduceCtorEq] at h
  rename_i key
  obtain ⟨_, rfl⟩ := h
  refine ⟨by simp [SV.wf, wfs, cdS, SC.wf], calls_of_Run Tryd.func13 rfl kp13 (S := Non) (ρ := ρ) (en := []) [.c (.s key)] Tryd.ntmps13 (At.nil _ _ _) (by simp [SV.wf, SC.wf]) (by simp) ?_⟩
  intro C hC hP hk
  have hctr := noC_ok hP
  (refine VC_ok hctr (rs := res13) 300 _ _ _ ?_; simp (maxSteps := 1000000) only [VC, qA, qB, qC, qD, qE, qF, qG, qH, qI, qJ, qK, qL, qM, qN, qO, qP, qQ, qR, qS, qT, qU, qV, qW, qX, qY, qZ, qe, qf, qg, qh, qj, qk, ql, qm, qn, qo, qp, qq, qt, qu, qv, ev, qw, qy, qz, zA, zB, zC, zD, zE, zF, zG, zH, zI, zJ, TE.sv, zK, zL, zM, ↓reduceIte, reduceCtorEq, Value.oneCell', Nat.reduceEqDiff, Nat.reduceAdd, Nat.reduceLT, Nat.reduceBEq, Nat.reduceSub, Nat.reduceLeDiff, zP, zQ, zR, zS, zT, zU, zV, zW, zX, zY, zZ, za, zb, zc, zd, ze, zf, zg, zh, zi, zj, zk, zl, zm, zn, zo, zp, zq, zr, zt, zu, zw, zx, zy, zz, cE, jA, jB, cD, cO, jC, jD, jE, jF, jG, jH, jI, jJ, jK, jL, jM, jN, jO, jP, jQ, jR, jS, jT, jU, jV, jW, jX, jY, hP, hk, res13, kp13])
  exact Fin_ro hC hres13 rfl (by simp [SV.wf, wfs, cdS, SC.wf])
def lC0 : Ctr := fun f _ xs => match f with
  | 13 => rowGet xs
  | _ => none
theorem lC0_ok {C : Cx} (hP : C.P = Tryd.prog) : CtrOk C lC0 := by
  intro f en xs p v h hp ρ w hup hHp hHo hinj hwf
  unfold lC0 at h
  split at h
  · rw [hP]; exact ⟨fun args w => Tryd.call13 args w, rowGet_ok h⟩
  · cases h
/-- the end of a law -/
theorem lawFin {C : Cx} {fn : Func} {w : World} {ρ : Nat → RE} {n : Nat} {kp : List Nat} {en : List EN} {rs : List ResultVar} {b : Bool} (hC : C = zL Tryd.prog fn (fun e w' => e = .returned (.bool true) ∧ Below w.heap.size w w') Non w ρ n kp) (hrs : fn.results.toList = rs) (hb : b = true) : Fin C rs (.c (.b b)) en := by
  subst hC
  subst hb
  exact Fin_of ctx_of hrs fun ρ' w' h hn _ => ⟨rfl, h.up.to_below⟩
theorem envC_of {C : Cx} {fn : Func} {R : Ending → World → Prop} {w : World} {ρ : Nat → RE} {n : Nat} {kp : List Nat} (hC : C = zL Tryd.prog fn R Non w ρ n kp) (hE : Env w) : EnvC C := by
  subst hC
  exact fun w' hu => hE.below hu.to_below
end Go.Proofs.YtfmpdbngpknmaaaDoor
/- shown returns true. -/
namespace Go.Proofs.YtfmpdbngpknmaaaDoor
set_option linter.unusedSimpArgs false
set_option linter.unusedVariables false
set_option linter.unusedSimpArgs false
set_option linter.unusedVariables false
set_option maxHeartbeats 8000000
open Go.RowKit

def shC1 : Cd := ⟨2, 0, [107], [53], 0, 10, false, 0, false, 0, 0, false, false, 0, 0, false⟩
def shC2 : Cd := ⟨3, 0, [107], [], 0, 0, false, 0, false, 3, 0, false, false, 0, -1, false⟩
def shX1 : It := ⟨[107], 0, [53], 110, 1, 0, false, false⟩
def shX2 : It := ⟨[107], 0, [56], 110, 2, 0, false, false⟩
def shX3 : It := ⟨[107], 0, [56], 110, 2, 109, false, false⟩
theorem wrap64 (n : Int) (h0 : 0 ≤ n) (h1 : n < 18446744073709551616) : IntKind.u64.wrap n = n := by rw [IntKind.wrap_u64]; omega
theorem sh1 : applyF St.zero 100 shC1 900 = (⟨[shX1], 1, 0⟩, ⟨2, shX1, 0, false, false, false⟩) := by
  rw [show St.zero = none' 0 from rfl, app_nil ⟨by decide, by decide, by decide⟩]
  simp [doF, shC1, storeF, fitsB, newF, putF, none', momF, itF, shX1, It.zero, otherB, wrap64]
theorem par5 : parseV [53] = some 5 := by decide
theorem par8 : parseV [56] = some 8 := by decide
theorem dec8 : Lib.decDigits 8 = [56] := by rw [Lib.decDigits_one (by decide)]; rfl
theorem sh2 : applyF ⟨[shX1], 1, 0⟩ 105 shC2 900 = (⟨[shX2], 2, 0⟩, ⟨6, shX2, 8, false, false, false⟩) := by
  rw [show (⟨[shX1], 1, 0⟩ : St) = one shX1 1 from rfl, app_one ⟨by decide, by decide, by decide⟩ (by decide) rfl]
  simp [doF, shC2, mathF, numPut, addV, fitsB, putF, one, momF, itF, shX1, shX2, otherB, wrap64, par5, par8, dec8]
theorem sh3 : applyF ⟨[shX2], 2, 0⟩ 109 (getC [107]) 900 = (⟨[shX3], 2, 0⟩, ⟨1, shX3, 0, false, false, false⟩) := by
  rw [show (⟨[shX2], 2, 0⟩ : St) = one shX2 2 from rfl, app_one ⟨by decide, by decide, by decide⟩ (by decide) rfl]
  simp [doF, getC, getF, gotF, winB, soonB, itF, one, shX2, shX3]
theorem sh4 : applyF ⟨[shX2], 2, 0⟩ 110 (getC [107]) 900 = (⟨[], 2, 0⟩, toldF 5) := by
  rw [show (⟨[shX2], 2, 0⟩ : St) = one shX2 2 from rfl, app_gone ⟨by decide, by decide, by decide⟩ (by decide)]
  simp [doF, getC, getF, none']
theorem good_nil (cas flush : Int) : Good ⟨[], cas, flush⟩ := ⟨Sorted.nil, by simp, by simp⟩
theorem sorted_one (x : It) : Sorted [x] := List.pairwise_singleton _ _
set_option maxRecDepth 100000
theorem shown_ok (w : World) (hE : Env w) : Calls Tryd.prog 11 #[] w fun e w' => e = .returned (.bool true) ∧ Below w.heap.size w w' := by
  refine calls_of_Run Tryd.func11 rfl kp11 (S := Non) (ρ := fun _ => ⟨0, [], [], 0, none⟩) (en := []) [] Tryd.ntmps11 (At.nil _ _ _) (by simp) (by simp) ?_
  intro C hC hP hk
  have hctr := noC_ok hP
  have hEC := envC_of hC hE
  have hn0 : C.n0 = 0 := by rw [hC]; rfl
  have g1 : Good ⟨[shX1], 1, 0⟩ := ⟨sorted_one _, by simp, by simp [shX1]⟩
  have g2 : Good ⟨[shX2], 2, 0⟩ := ⟨sorted_one _, by simp, by simp [shX2]⟩
  (refine VG_ok hctr (rs := res11) true 300 _ _ _ ?_; simp (maxSteps := 1000000) only [VG, jZ, ja, jd, je, VC, qA, qB, qC, qD, qE, qF, qG, qH, qI, qJ, qK, qL, qM, qN, qO, qP, qQ, qR, qS, qT, qU, qV, qW, qX, qY, qZ, qe, qf, qg, qh, qj, qk, ql, qm, qn, qo, qp, qq, qt, qu, qv, ev, qw, qy, qz, zA, zB, zC, zD, zE, zF, zG, zH, zI, zJ, TE.sv, zK, zL, zM, ↓reduceIte, reduceCtorEq, Value.oneCell', Nat.reduceEqDiff, Nat.reduceAdd, Nat.reduceLT, Nat.reduceBEq, Nat.reduceSub, Nat.reduceLeDiff, zP, zQ, zR, zS, zT, zU, zV, zW, zX, zY, zZ, za, zb, zc, zd, ze, zf, zg, zh, zi, zj, zk, zl, zm, zn, zo, zp, zq, zr, zt, zu, zw, zx, zy, zz, cE, jA, jB, cD, cO, jC, jD, jE, jF, jG, jH, jI, jJ, jK, jL, jM, jN, jO, jP, jQ, jR, jS, jT, jU, jV, jW, jX, jY, hP, hk, res11, kp11, noC])
  refine Run_apply (⟨[shX1], 1, 0⟩, ⟨2, shX1, 0, false, false, false⟩) (X := St.zero) (c := shC1) (now := 100) (most := 900) sh1.symm hP hEC (.inl ⟨rfl, rfl⟩) (good_nil _ _) ⟨by decide, by decide, by decide, by decide, by decide, by decide⟩ (by rw [hn0]; exact Nat.zero_le _) rfl (by simp) ?_
  (refine VG_ok hctr (rs := res11) true 300 _ _ _ ?_; simp (maxSteps := 1000000) only [VG, jZ, ja, jd, je, VC, qA, qB, qC, qD, qE, qF, qG, qH, qI, qJ, qK, qL, qM, qN, qO, qP, qQ, qR, qS, qT, qU, qV, qW, qX, qY, qZ, qe, qf, qg, qh, qj, qk, ql, qm, qn, qo, qp, qq, qt, qu, qv, ev, qw, qy, qz, zA, zB, zC, zD, zE, zF, zG, zH, zI, zJ, TE.sv, zK, zL, zM, ↓reduceIte, reduceCtorEq, Value.oneCell', Nat.reduceEqDiff, Nat.reduceAdd, Nat.reduceLT, Nat.reduceBEq, Nat.reduceSub, Nat.reduceLeDiff, zP, zQ, zR, zS, zT, zU, zV, zW, zX, zY, zZ, za, zb, zc, zd, ze, zf, zg, zh, zi, zj, zk, zl, zm, zn, zo, zp, zq, zr, zt, zu, zw, zx, zy, zz, cE, jA, jB, cD, cO, jC, jD, jE, jF, jG, jH, jI, jJ, jK, jL, jM, jN, jO, jP, jQ, jR, jS, jT, jU, jV, jW, jX, jY, hP, hk, res11, kp11, noC, srcE, anS, shX1])
  refine Run_apply (⟨[shX2], 2, 0⟩, ⟨6, shX2, 8, false, false, false⟩) (X := ⟨[shX1], 1, 0⟩) (c := shC2) (now := 105) (most := 900) sh2.symm hP hEC (.inr ⟨0, rfl, rfl⟩) g1 ⟨by decide, by decide, by decide, by decide, by decide, by decide⟩ (by rw [hn0]; exact Nat.zero_le _) rfl (by simp) ?_
  (refine VG_ok hctr (rs := res11) true 300 _ _ _ ?_; simp (maxSteps := 1000000) only [VG, jZ, ja, jd, je, VC, qA, qB, qC, qD, qE, qF, qG, qH, qI, qJ, qK, qL, qM, qN, qO, qP, qQ, qR, qS, qT, qU, qV, qW, qX, qY, qZ, qe, qf, qg, qh, qj, qk, ql, qm, qn, qo, qp, qq, qt, qu, qv, ev, qw, qy, qz, zA, zB, zC, zD, zE, zF, zG, zH, zI, zJ, TE.sv, zK, zL, zM, ↓reduceIte, reduceCtorEq, Value.oneCell', Nat.reduceEqDiff, Nat.reduceAdd, Nat.reduceLT, Nat.reduceBEq, Nat.reduceSub, Nat.reduceLeDiff, zP, zQ, zR, zS, zT, zU, zV, zW, zX, zY, zZ, za, zb, zc, zd, ze, zf, zg, zh, zi, zj, zk, zl, zm, zn, zo, zp, zq, zr, zt, zu, zw, zx, zy, zz, cE, jA, jB, cD, cO, jC, jD, jE, jF, jG, jH, jI, jJ, jK, jL, jM, jN, jO, jP, jQ, jR, jS, jT, jU, jV, jW, jX, jY, hP, hk, res11, kp11, noC, srcE, anS, shX2])
  refine Run_apply (⟨[shX3], 2, 0⟩, ⟨1, shX3, 0, false, false, false⟩) (X := ⟨[shX2], 2, 0⟩) (c := getC [107]) (now := 109) (most := 900) sh3.symm hP hEC (.inr ⟨3, rfl, rfl⟩) g2 ⟨by decide, by decide, by decide, by decide, by decide, by decide⟩ (by rw [hn0]; exact Nat.zero_le _) rfl (by simp) ?_
  (refine VG_ok hctr (rs := res11) true 300 _ _ _ ?_; simp (maxSteps := 1000000) only [VG, jZ, ja, jd, je, VC, qA, qB, qC, qD, qE, qF, qG, qH, qI, qJ, qK, qL, qM, qN, qO, qP, qQ, qR, qS, qT, qU, qV, qW, qX, qY, qZ, qe, qf, qg, qh, qj, qk, ql, qm, qn, qo, qp, qq, qt, qu, qv, ev, qw, qy, qz, zA, zB, zC, zD, zE, zF, zG, zH, zI, zJ, TE.sv, zK, zL, zM, ↓reduceIte, reduceCtorEq, Value.oneCell', Nat.reduceEqDiff, Nat.reduceAdd, Nat.reduceLT, Nat.reduceBEq, Nat.reduceSub, Nat.reduceLeDiff, zP, zQ, zR, zS, zT, zU, zV, zW, zX, zY, zZ, za, zb, zc, zd, ze, zf, zg, zh, zi, zj, zk, zl, zm, zn, zo, zp, zq, zr, zt, zu, zw, zx, zy, zz, cE, jA, jB, cD, cO, jC, jD, jE, jF, jG, jH, jI, jJ, jK, jL, jM, jN, jO, jP, jQ, jR, jS, jT, jU, jV, jW, jX, jY, hP, hk, res11, kp11, noC, srcE, anS, shX3])
  refine Run_apply (⟨[], 2, 0⟩, toldF 5) (X := ⟨[shX2], 2, 0⟩) (c := getC [107]) (now := 110) (most := 900) sh4.symm hP hEC (.inr ⟨3, rfl, rfl⟩) g2 ⟨by decide, by decide, by decide, by decide, by decide, by decide⟩ (by rw [hn0]; exact Nat.zero_le _) rfl (by simp) ?_
  (refine VG_ok hctr (rs := res11) true 300 _ _ _ ?_; simp (maxSteps := 1000000) only [VG, jZ, ja, jd, je, VC, qA, qB, qC, qD, qE, qF, qG, qH, qI, qJ, qK, qL, qM, qN, qO, qP, qQ, qR, qS, qT, qU, qV, qW, qX, qY, qZ, qe, qf, qg, qh, qj, qk, ql, qm, qn, qo, qp, qq, qt, qu, qv, ev, qw, qy, qz, zA, zB, zC, zD, zE, zF, zG, zH, zI, zJ, TE.sv, zK, zL, zM, ↓reduceIte, reduceCtorEq, Value.oneCell', Nat.reduceEqDiff, Nat.reduceAdd, Nat.reduceLT, Nat.reduceBEq, Nat.reduceSub, Nat.reduceLeDiff, zP, zQ, zR, zS, zT, zU, zV, zW, zX, zY, zZ, za, zb, zc, zd, ze, zf, zg, zh, zi, zj, zk, zl, zm, zn, zo, zp, zq, zr, zt, zu, zw, zx, zy, zz, cE, jA, jB, cD, cO, jC, jD, jE, jF, jG, jH, jI, jJ, jK, jL, jM, jN, jO, jP, jQ, jR, jS, jT, jU, jV, jW, jX, jY, hP, hk, res11, kp11, noC, srcE, anS, toldF, It.zero, beq_self_eq_true])
  exact lawFin hC hres11 rfl
/-- shown; get -/
def lC1 : Ctr := fun f _ xs => match f with
  | 13 => rowGet xs
  | 11 => match xs with
    | [] => some (True, .c (.b true))
    | _ => none
  | _ => none
theorem lC1_ok {C : Cx} (hP : C.P = Tryd.prog) (hE : EnvC C) : CtrOk C lC1 := by
  intro f en xs p v h hp ρ w hup hHp hHo hinj hwf
  unfold lC1 at h
  split at h
  · rw [hP]; exact ⟨fun args w => Tryd.call13 args w, rowGet_ok h⟩
  · rw [hP]
    split at h <;> simp only [Option.some.injEq, Prod.mk.injEq, reduceCtorEq] at h
    obtain ⟨_, rfl⟩ := h
    exact ⟨fun args w => Tryd.call11 args w, trivial, shown_ok w (hE w hup)⟩
  · cases h
theorem mkC_head {nE j q : Nat} {rest : List Cr} (h : ∀ x ∈ rest, x ≠ .h j) : mkC nE (.h j :: rest) j q ↔ q = nE := by
  unfold mkC
  constructor
  · rintro ⟨h1, h2⟩
    rcases Nat.eq_or_lt_of_le h1 with h3 | h3
    · exact h3.symm
    · obtain ⟨d, hd⟩ : ∃ d, q - nE = d + 1 := ⟨q - nE - 1, by omega⟩
      rw [hd, List.getElem?_cons_succ] at h2
      exact absurd rfl (h _ (List.mem_of_getElem? h2))
  · rintro rfl
    exact ⟨Nat.le_refl _, by rw [Nat.sub_self]; rfl⟩
/-- Apply in a drawn region -/
theorem apply_hY {C : Cx} {nE j : Nat} {rest : List Cr} {en en' : List EN} {X : St} {now : Int} {c : Cd} {most : Int} {v : SC} (Y : St × An) (hY : Y = applyF X now c most) (hP : C.P = Tryd.prog) (hE : EnvC C) (hv : StOf en X v) (hg : Good X) (hc : CdOk c) (hn1 : C.n0 ≤ nE) (hr : ∀ x ∈ rest, x ≠ .h j)
    (hN : zD en' nE = some (srcE Y.1.items)) (hq : ∀ q, q ≠ nE → zD en' q = zD en q) :
    HCall C nE (mkC nE (.h j :: rest) j) en en' 12 [.g [v, .i .u64 X.cas, .i .i64 X.flush], .c (.i .i64 now), .g (cdS c), .c (.i .i64 most)] (.t [.g [.rw nE Y.1.items.length, .i .u64 Y.1.cas, .i .i64 Y.1.flush], .g (anS Y.2)]) := by
  subst hY
  exact apply_h hP hE hv hg hc hn1 (fun q => mkC_head hr) hN hq
end Go.Proofs.YtfmpdbngpknmaaaDoor
/- What is stored, got, seen plainly. No program in sight. -/
namespace Go.Proofs.YtfmpdbngpknmaaaDoor
set_option linter.unusedSimpArgs false
set_option linter.unusedVariables false

def setC (key : List UInt8) (flags : Int) (value : List UInt8) (exp : Int) : Cd := ⟨2, 0, key, value, flags, exp, false, 0, false, 0, 0, false, false, 0, -1, false⟩
def setX (key : List UInt8) (flags : Int) (value : List UInt8) (e cas : Int) : It := ⟨key, flags, value, e, cas, 0, false, false⟩
theorem ok_get {t : Int} {key : List UInt8} (hk : keyB key = true) (h0 : 1 ≤ t) (h1 : t ≤ 1099511627776) : okB t (getC key) := by
  refine ⟨?_, h0, h1⟩
  simp [mayB, getC, nearB, hk]
theorem may_parts {c : Cd} (h : mayB c = true) : (c.op = 6 ∨ keyB c.key = true) ∧ nearB c.exp = true ∧ nearB c.vive = true ∧ nearB c.recache = true ∧ c.val.length ≤ 65536 := by
  simp only [mayB, Bool.and_eq_true, Bool.or_eq_true, decide_eq_true_eq] at h
  obtain ⟨⟨⟨_, h1⟩, ⟨h2, h3⟩, h4⟩, h5⟩ := h
  exact ⟨h5, h2, h3, h4, h1⟩
theorem key_of_set {key value : List UInt8} {flags exp : Int} (h : mayB (setC key flags value exp) = true) : keyB key = true ∧ nearB exp = true ∧ value.length ≤ 65536 := by
  obtain ⟨h1, h2, _, _, h5⟩ := may_parts h
  exact ⟨h1.resolve_left (show ¬ (2 : Int) = 6 by decide), h2, h5⟩
theorem key_len {key : List UInt8} (h : keyB key = true) : key.length ≤ 250 := by
  simp only [keyB, Bool.and_eq_true, decide_eq_true_eq] at h; exact h.2
theorem near_iff {n : Int} (h : nearB n = true) : -1099511627776 ≤ n ∧ n ≤ 1099511627776 := by
  simpa [nearB] using h
theorem mom_bd {now e : Int} (h : nearB e = true) (h0 : 1 ≤ now) (h1 : now ≤ 1099511627776) : -4398046511104 ≤ momF now e ∧ momF now e ≤ 4398046511104 := by
  have := near_iff h
  unfold momF
  split
  · omega
  · split <;> omega
theorem u64w (n : Int) (h0 : 0 ≤ n) (h1 : n < 18446744073709551616) : IntKind.u64.wrap n = n := by rw [IntKind.wrap_u64]; omega
theorem set_nil {cas now most : Int} {key value : List UInt8} {flags exp : Int} (h : okB now (setC key flags value exp)) (hfit : (key.length : Int) + (value.length : Int) ≤ most) (hc0 : 0 ≤ cas) (hc1 : cas < 1000000) :
    applyF (none' cas) now (setC key flags value exp) most = (one (setX key flags value (momF now exp) (cas + 1)) (cas + 1), ⟨2, setX key flags value (momF now exp) (cas + 1), 0, false, false, false⟩) := by
  rw [app_nil h]
  have hw := u64w (cas + 1) (by omega) (by omega)
  simp [doF, setC, storeF, fitsB, newF, putF, none', one, setX, hfit, hw]
theorem set_large {cas now most : Int} {key value : List UInt8} {flags exp : Int} (h : okB now (setC key flags value exp)) (hfit : ¬ (key.length : Int) + (value.length : Int) ≤ most) :
    applyF (none' cas) now (setC key flags value exp) most = (none' cas, toldF 11) := by
  rw [app_nil h]
  simp [doF, setC, storeF, fitsB, newF, none', hfit]
theorem get_one {x : It} {cas t most : Int} (hk : keyB x.key = true) (h0 : 1 ≤ t) (h1 : t ≤ 1099511627776) (hg : goneB t x = false) (hs : x.stale = false) (hw : x.won = false) :
    applyF (one x cas) t (getC x.key) most = (one { x with last := t } cas, ⟨1, { x with last := t }, 0, false, false, false⟩) := by
  rw [app_one (ok_get hk h0 h1) hg rfl]
  cases x
  simp only at hs hw
  subst hs; subst hw
  simp [doF, getC, getF, gotF, winB, soonB, itF, one]
theorem get_gone {x : It} {cas t most : Int} {key : List UInt8} (hk : keyB key = true) (h0 : 1 ≤ t) (h1 : t ≤ 1099511627776) (hg : goneB t x = true) :
    applyF (one x cas) t (getC key) most = (none' cas, toldF 5) := by
  rw [app_gone (ok_get hk h0 h1) hg]
  simp [doF, getC, getF, none']
theorem get_nil {cas t most : Int} {key : List UInt8} (hk : keyB key = true) (h0 : 1 ≤ t) (h1 : t ≤ 1099511627776) :
    applyF (none' cas) t (getC key) most = (none' cas, toldF 5) := by
  rw [app_nil (ok_get hk h0 h1)]
  simp [doF, getC, getF, none']
theorem good_one {x : It} {cas flush : Int} (h1 : x.key.length ≤ 100000000) (h2 : x.val.length ≤ 100000000) (h3 : -4398046511104 ≤ x.exp) (h4 : x.exp ≤ 4398046511104) : Good ⟨[x], cas, flush⟩ :=
  ⟨List.pairwise_singleton _ _, by simp, by intro y hy; simp at hy; subst hy; exact ⟨h1, h2, h3, h4⟩⟩
/-- whether what was stored for so many seconds is there still -/
def liveB (exp now later : Int) : Bool := decide (exp = 0) || (decide (0 < exp) && decide (exp ≤ 2592000) && decide (later < exp)) || (decide (2592000 < exp) && decide (now + later < exp))
theorem gone_set {key value : List UInt8} {flags exp now later cas : Int} (h0 : 1 ≤ now) (h1 : 0 ≤ later) : goneB (now + later) (setX key flags value (momF now exp) cas) = !liveB exp now later := by
  unfold goneB setX liveB momF
  simp only
  by_cases he : exp = 0
  · simp [he]
  by_cases hm : 2592000 < exp
  · have h2 : ¬ exp ≤ 2592000 := by omega
    rw [if_pos (.inr hm)]
    simp [he, hm, h2]
    rw [Bool.eq_iff_iff]; simp
  · rw [if_neg (by omega)]
    by_cases hn : exp < 0
    · rw [if_pos hn]
      have h3 : ¬ 0 < exp := by omega
      simp [he, hm, h3]
      omega
    · rw [if_neg hn]
      have h3 : 0 < exp := by omega
      have h4 : exp ≤ 2592000 := by omega
      simp [he, hm, h3, h4]
      rw [Bool.eq_iff_iff]; simp
      omega
end Go.Proofs.YtfmpdbngpknmaaaDoor
