/- ModelApart: the walk. Printed by gen_apart.py. -/
import Derived.Test.YtfmpdbngpknmaaaDoorBJ
import Derived.Test.YtfmpdbngpknmaaaDoorCApartStep
import Derived.Test.YtfmpdbngpknmaaaDoorCLooksLaw
import Derived.Test.YtfmpdbngpknmaaaDoorBB
import Derived.Test.YtfmpdbngpknmaaaDoorCArgCmd
import Derived.Test.YtfmpdbngpknmaaaDoorCEqAn
namespace Go.Proofs.YtfmpdbngpknmaaaDoor
set_option linter.unusedSimpArgs false
set_option linter.unusedVariables false
set_option linter.unusedSimpArgs false
set_option linter.unusedVariables false
set_option maxHeartbeats 8000000
open Go.RowKit
structure ApI (key : List UInt8) where
  i : Nat
  X : St
  Y : St
  h : Apq key i X Y
def slAp (A : Option Addr) (n cp : Nat) (key : List UInt8) (i : Nat) : List (Nat × SV) := [(8, .c (.i .i64 (i : Int))), (7, .c (.p 1 0)), (6, .c (.p 0 0)), (5, .c (.b true)), (0, .c (.v (.slice A n cp))), (1, .c (.s key))]
def enAp (X Y : St) : List EN := [⟨(29, 0, whole), [.rw 2 X.items.length, .i .u64 X.cas, .i .i64 X.flush], true⟩, ⟨(29, 0, whole), [.rw 3 Y.items.length, .i .u64 Y.cas, .i .i64 Y.flush], true⟩, srcE X.items, srcE Y.items]
set_option maxRecDepth 100000
theorem apart_walk (A : Option Addr) (n cp : Nat) (cs : Nat → Cd) (key : List UInt8) (hk0 : key.length ≤ 9223372036854775807) (hnm : n ≤ maxLen) (w : World) (hA : CmdsAt w A n cs) (hE : Env w) :
    Calls Tryd.prog 7 #[.slice A n cp, .string ⟨key.toArray⟩] w fun e w' => e = .returned (.bool true) ∧ Below w.heap.size w w' := by
  refine calls_of_Run Tryd.func7 rfl kp7 (S := Non) (ρ := fun _ => ⟨0, [], [], 0, none⟩) (en := []) [.c (.v (.slice A n cp)), .c (.s key)] Tryd.ntmps7 (At.nil _ _ _) (by simp [SV.wf, SC.wf]) (by simp) ?_
  intro C hC hP hk
  have hEC := envC_of hC hE
  have hctr := lC1_ok hP hEC
  have hn0 : C.n0 = 0 := by rw [hC]; rfl
  have hS : C.S = Non := by rw [hC]; rfl
  have hw0 : C.w0 = w := by rw [hC]; rfl
  have h00 : (0 : Int) < 18446744073709551616 := by decide
  (refine VT_ok hctr (rs := res7) true 300 _ _ _ ?_; simp (maxSteps := 1000000) only [VT, jf, jg, jZ, ja, jd, je, VC, qA, qB, qC, qD, qE, qF, qG, qH, qI, qJ, qK, qL, qM, qN, qO, qP, qQ, qR, qS, qT, qU, qV, qW, qX, qY, qZ, qe, qf, qg, qh, qj, qk, ql, qm, qn, qo, qp, qq, qt, qu, qv, ev, qw, qy, qz, zA, zB, zC, zD, zE, zF, zG, zH, zI, zJ, TE.sv, zK, zL, zM, ↓reduceIte, reduceCtorEq, Value.oneCell', Nat.reduceEqDiff, Nat.reduceAdd, Nat.reduceLT, Nat.reduceBEq, Nat.reduceSub, Nat.reduceLeDiff, zP, zQ, zR, zS, zT, zU, zV, zW, zX, zY, zZ, za, zb, zc, zd, ze, zf, zg, zh, zi, zj, zk, zl, zm, zn, zo, zp, zq, zr, zt, zu, zw, zx, zy, zz, cE, jA, jB, cD, cO, jC, jD, jE, jF, jG, jH, jI, jJ, jK, jL, jM, jN, jO, jP, jQ, jR, jS, jT, jU, jV, jW, jX, jY, hP, hk, res7, kp7, lC1])
  refine Run_nilrow (en' := [⟨(29, 0, whole), [.rw 2 0, .i .u64 0, .i .i64 0], true⟩, ⟨(29, 0, whole), [.v (.slice none 0 0), .i .u64 0, .i .i64 0], true⟩]) (sl' := slAp A n cp key 0) (31, 0, rowI 0 []) rfl (fun _ => .inr ⟨by simp, rfl, rfl⟩) ?_ ?_ ?_
  · refine ⟨⟨rfl, rfl, fun ρ h => ?_, ?_⟩, ⟨rfl, rfl, fun ρ h => rfl, ?_⟩, trivial⟩
    · show dens ρ [.rw 2 0, .i .u64 0, .i .i64 0] = dens ρ [.v (.slice none 0 0), .i .u64 0, .i .i64 0]
      have h : (ρ 2).nl = some none := h
      simp only [dens, List.map_cons, SC.den, rwOf_off h, List.map_nil]
    all_goals simp [wfs, SC.wf, zG]
  · refine ⟨⟨⟨_, rfl, fun ρ h => rfl⟩, ?_⟩, ⟨⟨_, rfl, fun ρ h => rfl⟩, ?_⟩, ⟨⟨_, rfl, fun ρ h => rfl⟩, ?_⟩, ⟨⟨_, rfl, fun ρ h => rfl⟩, ?_⟩, ⟨⟨_, rfl, fun ρ h => rfl⟩, ?_⟩, ⟨⟨_, rfl, fun ρ h => rfl⟩, ?_⟩, trivial⟩ <;> simp [SV.wf, SC.wf, zG]
  refine Run_nilrow (en' := [⟨(29, 0, whole), [.rw 2 0, .i .u64 0, .i .i64 0], true⟩, ⟨(29, 0, whole), [.rw 3 0, .i .u64 0, .i .i64 0], true⟩, srcE []]) (sl' := slAp A n cp key 0) (31, 0, rowI 0 []) rfl (fun _ => .inr ⟨by simp, rfl, rfl⟩) ?_ ?_ ?_
  · refine ⟨⟨rfl, rfl, fun ρ h => rfl, ?_⟩, ⟨rfl, rfl, fun ρ h => ?_, ?_⟩, ⟨rfl, rfl, fun ρ h => rfl, ?_⟩, trivial⟩
    case refine_2 =>
      show dens ρ [.rw 3 0, .i .u64 0, .i .i64 0] = dens ρ [.v (.slice none 0 0), .i .u64 0, .i .i64 0]
      have h : (ρ 3).nl = some none := h
      simp only [dens, List.map_cons, SC.den, rwOf_off h, List.map_nil]
    all_goals simp [wfs, SC.wf, srcE, zG, zF]
  · refine ⟨⟨⟨_, rfl, fun ρ h => rfl⟩, ?_⟩, ⟨⟨_, rfl, fun ρ h => rfl⟩, ?_⟩, ⟨⟨_, rfl, fun ρ h => rfl⟩, ?_⟩, ⟨⟨_, rfl, fun ρ h => rfl⟩, ?_⟩, ⟨⟨_, rfl, fun ρ h => rfl⟩, ?_⟩, ⟨⟨_, rfl, fun ρ h => rfl⟩, ?_⟩, trivial⟩ <;> simp [SV.wf, SC.wf, zG, zF]
  refine Run_loopD (ι := ApI key) (fun x => slAp A n cp key x.i) (fun x => enAp x.X x.Y) (fun x => 41 - x.i) ⟨0, St.zero, St.zero, Apq.start key⟩ (fun d v h => h) rfl ?_
  rintro ⟨i, X, Y, hl⟩ D dP dS dw dn dk _ hX hJ
  have hP0 := hP; have hk1 := hk; have hctr0 := hctr; have hn00 := hn0; have hEC0 := hEC
  have hP : D.P = Tryd.prog := by rw [dP]; exact hP0
  have hk : D.kp = kp7 := by rw [dk]; exact hk1
  have hEC : EnvC D := by unfold EnvC; rw [dS, dw]; exact hEC0
  have hctr := lC1_ok hP hEC
  have hn0 : D.n0 = 0 := by rw [dn]; exact hn00
  have hS' : D.S = Non := by rw [dS]; exact hS
  have hw' : D.w0 = w := by rw [dw]; exact hw0
  obtain ⟨j, hj⟩ : ∃ j : Int, j = (i : Int) := ⟨_, rfl⟩
  show Run D _ _ [(8, .c (.i .i64 (i : Int))), (7, .c (.p 1 0)), (6, .c (.p 0 0)), (5, .c (.b true)), (0, .c (.v (.slice A n cp))), (1, .c (.s key))] [⟨(29, 0, whole), [.rw 2 X.items.length, .i .u64 X.cas, .i .i64 X.flush], true⟩, ⟨(29, 0, whole), [.rw 3 Y.items.length, .i .u64 Y.cas, .i .i64 Y.flush], true⟩, srcE X.items, srcE Y.items]
  rw [← hj]
  by_cases hjn : j < (n : Int)
  case neg =>
      have c1 : decide (j < (n : Int)) = false := decide_eq_false hjn
      (refine VT_ok hctr (rs := res7) true 300 _ _ _ ?_; simp (maxSteps := 1000000) only [VT, jf, jg, jZ, ja, jd, je, VC, qA, qB, qC, qD, qE, qF, qG, qH, qI, qJ, qK, qL, qM, qN, qO, qP, qQ, qR, qS, qT, qU, qV, qW, qX, qY, qZ, qe, qf, qg, qh, qj, qk, ql, qm, qn, qo, qp, qq, qt, qu, qv, ev, qw, qy, qz, zA, zB, zC, zD, zE, zF, zG, zH, zI, zJ, TE.sv, zK, zL, zM, ↓reduceIte, reduceCtorEq, Value.oneCell', Nat.reduceEqDiff, Nat.reduceAdd, Nat.reduceLT, Nat.reduceBEq, Nat.reduceSub, Nat.reduceLeDiff, zP, zQ, zR, zS, zT, zU, zV, zW, zX, zY, zZ, za, zb, zc, zd, ze, zf, zg, zh, zi, zj, zk, zl, zm, zn, zo, zp, zq, zr, zt, zu, zw, zx, zy, zz, cE, jA, jB, cD, cO, jC, jD, jE, jF, jG, jH, jI, jJ, jK, jL, jM, jN, jO, jP, jQ, jR, jS, jT, jU, jV, jW, jX, jY, hP, hk, res7, kp7, lC1, rowGet, getC, cdS, Int.reduceAdd, Int.reduceBEq, Int.reduceBNe, srcE, anS, beq_self_eq_true, bne_self_eq_false, true_and, and_self, steq_an, c1])
      refine hX rfl rfl ?_
      have hP := hP0; have hk := hk1; have hctr := hctr0; have hn0 := hn00; have hEC := hEC0
      (refine VT_ok hctr (rs := res7) true 300 _ _ _ ?_; simp (maxSteps := 1000000) only [VT, jf, jg, jZ, ja, jd, je, VC, qA, qB, qC, qD, qE, qF, qG, qH, qI, qJ, qK, qL, qM, qN, qO, qP, qQ, qR, qS, qT, qU, qV, qW, qX, qY, qZ, qe, qf, qg, qh, qj, qk, ql, qm, qn, qo, qp, qq, qt, qu, qv, ev, qw, qy, qz, zA, zB, zC, zD, zE, zF, zG, zH, zI, zJ, TE.sv, zK, zL, zM, ↓reduceIte, reduceCtorEq, Value.oneCell', Nat.reduceEqDiff, Nat.reduceAdd, Nat.reduceLT, Nat.reduceBEq, Nat.reduceSub, Nat.reduceLeDiff, zP, zQ, zR, zS, zT, zU, zV, zW, zX, zY, zZ, za, zb, zc, zd, ze, zf, zg, zh, zi, zj, zk, zl, zm, zn, zo, zp, zq, zr, zt, zu, zw, zx, zy, zz, cE, jA, jB, cD, cO, jC, jD, jE, jF, jG, jH, jI, jJ, jK, jL, jM, jN, jO, jP, jQ, jR, jS, jT, jU, jV, jW, jX, jY, hP, hk, res7, kp7, lC1, rowGet, getC, cdS, Int.reduceAdd, Int.reduceBEq, Int.reduceBNe, srcE, anS, beq_self_eq_true, bne_self_eq_false, true_and, and_self, steq_an])
      exact lawFin hC hres7 rfl
  by_cases hj40 : j < 40
  case neg =>
      have c1 : decide (j < (n : Int)) = true := decide_eq_true hjn
      have c2 : decide (j < 40) = false := decide_eq_false hj40
      (refine VT_ok hctr (rs := res7) true 300 _ _ _ ?_; simp (maxSteps := 1000000) only [VT, jf, jg, jZ, ja, jd, je, VC, qA, qB, qC, qD, qE, qF, qG, qH, qI, qJ, qK, qL, qM, qN, qO, qP, qQ, qR, qS, qT, qU, qV, qW, qX, qY, qZ, qe, qf, qg, qh, qj, qk, ql, qm, qn, qo, qp, qq, qt, qu, qv, ev, qw, qy, qz, zA, zB, zC, zD, zE, zF, zG, zH, zI, zJ, TE.sv, zK, zL, zM, ↓reduceIte, reduceCtorEq, Value.oneCell', Nat.reduceEqDiff, Nat.reduceAdd, Nat.reduceLT, Nat.reduceBEq, Nat.reduceSub, Nat.reduceLeDiff, zP, zQ, zR, zS, zT, zU, zV, zW, zX, zY, zZ, za, zb, zc, zd, ze, zf, zg, zh, zi, zj, zk, zl, zm, zn, zo, zp, zq, zr, zt, zu, zw, zx, zy, zz, cE, jA, jB, cD, cO, jC, jD, jE, jF, jG, jH, jI, jJ, jK, jL, jM, jN, jO, jP, jQ, jR, jS, jT, jU, jV, jW, jX, jY, hP, hk, res7, kp7, lC1, rowGet, getC, cdS, Int.reduceAdd, Int.reduceBEq, Int.reduceBNe, srcE, anS, beq_self_eq_true, bne_self_eq_false, true_and, and_self, steq_an, c1, c2])
      refine hX rfl rfl ?_
      have hP := hP0; have hk := hk1; have hctr := hctr0; have hn0 := hn00; have hEC := hEC0
      (refine VT_ok hctr (rs := res7) true 300 _ _ _ ?_; simp (maxSteps := 1000000) only [VT, jf, jg, jZ, ja, jd, je, VC, qA, qB, qC, qD, qE, qF, qG, qH, qI, qJ, qK, qL, qM, qN, qO, qP, qQ, qR, qS, qT, qU, qV, qW, qX, qY, qZ, qe, qf, qg, qh, qj, qk, ql, qm, qn, qo, qp, qq, qt, qu, qv, ev, qw, qy, qz, zA, zB, zC, zD, zE, zF, zG, zH, zI, zJ, TE.sv, zK, zL, zM, ↓reduceIte, reduceCtorEq, Value.oneCell', Nat.reduceEqDiff, Nat.reduceAdd, Nat.reduceLT, Nat.reduceBEq, Nat.reduceSub, Nat.reduceLeDiff, zP, zQ, zR, zS, zT, zU, zV, zW, zX, zY, zZ, za, zb, zc, zd, ze, zf, zg, zh, zi, zj, zk, zl, zm, zn, zo, zp, zq, zr, zt, zu, zw, zx, zy, zz, cE, jA, jB, cD, cO, jC, jD, jE, jF, jG, jH, jI, jJ, jK, jL, jM, jN, jO, jP, jQ, jR, jS, jT, jU, jV, jW, jX, jY, hP, hk, res7, kp7, lC1, rowGet, getC, cdS, Int.reduceAdd, Int.reduceBEq, Int.reduceBNe, srcE, anS, beq_self_eq_true, bne_self_eq_false, true_and, and_self, steq_an])
      exact lawFin hC hres7 rfl
  have c1 : decide (j < (n : Int)) = true := decide_eq_true hjn
  have c2 : decide (j < 40) = true := decide_eq_true hj40
  have p1 : 0 ≤ j := by omega
  have p2 : j < (n : Int) := hjn
  have p3 : IntKind.i64.wrap (j + 1) = j + 1 := IntWalk.i64_in _ (by omega)
  have p4 : IntKind.i64.wrap (10 + j) = 10 + j := IntWalk.i64_in _ (by omega)
  obtain ⟨b, o, rfl, hb, hcell, hcd⟩ := hA i (by omega)
  have hji : j.toNat = i := by omega
  obtain ⟨c, hc⟩ : ∃ c, c = cs i := ⟨_, rfl⟩
  rw [← hc] at hcell hcd
  have hr16 : D.rd b (o + j.toNat * 16) 16 = some (cdS c) := by rw [hji]; exact rd_arg hS' hw' hb hcell rfl
  (refine VT_ok hctr (rs := res7) true 300 _ _ _ ?_; simp (maxSteps := 1000000) only [VT, jf, jg, jZ, ja, jd, je, VC, qA, qB, qC, qD, qE, qF, qG, qH, qI, qJ, qK, qL, qM, qN, qO, qP, qQ, qR, qS, qT, qU, qV, qW, qX, qY, qZ, qe, qf, qg, qh, qj, qk, ql, qm, qn, qo, qp, qq, qt, qu, qv, ev, qw, qy, qz, zA, zB, zC, zD, zE, zF, zG, zH, zI, zJ, TE.sv, zK, zL, zM, ↓reduceIte, reduceCtorEq, Value.oneCell', Nat.reduceEqDiff, Nat.reduceAdd, Nat.reduceLT, Nat.reduceBEq, Nat.reduceSub, Nat.reduceLeDiff, zP, zQ, zR, zS, zT, zU, zV, zW, zX, zY, zZ, za, zb, zc, zd, ze, zf, zg, zh, zi, zj, zk, zl, zm, zn, zo, zp, zq, zr, zt, zu, zw, zx, zy, zz, cE, jA, jB, cD, cO, jC, jD, jE, jF, jG, jH, jI, jJ, jK, jL, jM, jN, jO, jP, jQ, jR, jS, jT, jU, jV, jW, jX, jY, hP, hk, res7, kp7, lC1, rowGet, getC, cdS, Int.reduceAdd, Int.reduceBEq, Int.reduceBNe, srcE, anS, beq_self_eq_true, bne_self_eq_false, true_and, and_self, steq_an, c1, c2, p1, p2, p3, hr16, p4])
  by_cases h6 : c.op = 6
  · have c3 : (c.op == 6) = true := by simpa using h6
    simp (maxSteps := 1000000) only [VT, jf, jg, jZ, ja, jd, je, VC, qA, qB, qC, qD, qE, qF, qG, qH, qI, qJ, qK, qL, qM, qN, qO, qP, qQ, qR, qS, qT, qU, qV, qW, qX, qY, qZ, qe, qf, qg, qh, qj, qk, ql, qm, qn, qo, qp, qq, qt, qu, qv, ev, qw, qy, qz, zA, zB, zC, zD, zE, zF, zG, zH, zI, zJ, TE.sv, zK, zL, zM, ↓reduceIte, reduceCtorEq, Value.oneCell', Nat.reduceEqDiff, Nat.reduceAdd, Nat.reduceLT, Nat.reduceBEq, Nat.reduceSub, Nat.reduceLeDiff, zP, zQ, zR, zS, zT, zU, zV, zW, zX, zY, zZ, za, zb, zc, zd, ze, zf, zg, zh, zi, zj, zk, zl, zm, zn, zo, zp, zq, zr, zt, zu, zw, zx, zy, zz, cE, jA, jB, cD, cO, jC, jD, jE, jF, jG, jH, jI, jJ, jK, jL, jM, jN, jO, jP, jQ, jR, jS, jT, jU, jV, jW, jX, jY, hP, hk, res7, kp7, lC1, rowGet, getC, cdS, Int.reduceAdd, Int.reduceBEq, Int.reduceBNe, srcE, anS, beq_self_eq_true, bne_self_eq_false, true_and, and_self, steq_an, c1, c2, p1, p2, p3, hr16, c3, p4]
    refine Run_keep (f := fun c => if c = 0 then 0 else if c = 1 then 1 else if c = 2 then 2 else 3) (enK := enAp X Y) (slK := slAp (some ⟨b, o, none⟩) n cp key (i + 1)) hn0 (by show ∀ c d, c < 4 → d < 4 → _; intro c d h1 h2; (repeat' split) <;> omega) ?_ ?_ (hJ ⟨i + 1, X, Y, hl.skip⟩ _ (by show 41 - (i + 1) < 41 - i; omega) (fun d v h => h))
    · refine ⟨⟨_, rfl, fun ρ => rfl, ?_⟩, ⟨_, rfl, fun ρ => rfl, ?_⟩, ⟨_, rfl, fun ρ => rfl, ?_⟩, ⟨_, rfl, fun ρ => rfl, ?_⟩, trivial⟩ <;> simp [wfs, SC.wf, enAp, srcE]
    · refine ⟨⟨?_, _, rfl, fun ρ => ?_⟩, ⟨?_, _, rfl, fun ρ => rfl⟩, ⟨?_, _, rfl, fun ρ => rfl⟩, ⟨?_, _, rfl, fun ρ => rfl⟩, ⟨?_, _, rfl, fun ρ => rfl⟩, ⟨?_, _, rfl, fun ρ => rfl⟩, trivial⟩
      case refine_2 => show Value.int .i64 _ = Value.int .i64 _; rw [hj]; rfl
      all_goals simp [SV.wf, SC.wf, enAp]
  have c3 : (c.op == 6) = false := by simpa using h6
  simp (maxSteps := 1000000) only [VT, jf, jg, jZ, ja, jd, je, VC, qA, qB, qC, qD, qE, qF, qG, qH, qI, qJ, qK, qL, qM, qN, qO, qP, qQ, qR, qS, qT, qU, qV, qW, qX, qY, qZ, qe, qf, qg, qh, qj, qk, ql, qm, qn, qo, qp, qq, qt, qu, qv, ev, qw, qy, qz, zA, zB, zC, zD, zE, zF, zG, zH, zI, zJ, TE.sv, zK, zL, zM, ↓reduceIte, reduceCtorEq, Value.oneCell', Nat.reduceEqDiff, Nat.reduceAdd, Nat.reduceLT, Nat.reduceBEq, Nat.reduceSub, Nat.reduceLeDiff, zP, zQ, zR, zS, zT, zU, zV, zW, zX, zY, zZ, za, zb, zc, zd, ze, zf, zg, zh, zi, zj, zk, zl, zm, zn, zo, zp, zq, zr, zt, zu, zw, zx, zy, zz, cE, jA, jB, cD, cO, jC, jD, jE, jF, jG, jH, jI, jJ, jK, jL, jM, jN, jO, jP, jQ, jR, jS, jT, jU, jV, jW, jX, jY, hP, hk, res7, kp7, lC1, rowGet, getC, cdS, Int.reduceAdd, Int.reduceBEq, Int.reduceBNe, srcE, anS, beq_self_eq_true, bne_self_eq_false, true_and, and_self, steq_an, c1, c2, p1, p2, p3, hr16, c3, p4]
  by_cases hcas : c.hasCas = true
  · simp (maxSteps := 1000000) only [VT, jf, jg, jZ, ja, jd, je, VC, qA, qB, qC, qD, qE, qF, qG, qH, qI, qJ, qK, qL, qM, qN, qO, qP, qQ, qR, qS, qT, qU, qV, qW, qX, qY, qZ, qe, qf, qg, qh, qj, qk, ql, qm, qn, qo, qp, qq, qt, qu, qv, ev, qw, qy, qz, zA, zB, zC, zD, zE, zF, zG, zH, zI, zJ, TE.sv, zK, zL, zM, ↓reduceIte, reduceCtorEq, Value.oneCell', Nat.reduceEqDiff, Nat.reduceAdd, Nat.reduceLT, Nat.reduceBEq, Nat.reduceSub, Nat.reduceLeDiff, zP, zQ, zR, zS, zT, zU, zV, zW, zX, zY, zZ, za, zb, zc, zd, ze, zf, zg, zh, zi, zj, zk, zl, zm, zn, zo, zp, zq, zr, zt, zu, zw, zx, zy, zz, cE, jA, jB, cD, cO, jC, jD, jE, jF, jG, jH, jI, jJ, jK, jL, jM, jN, jO, jP, jQ, jR, jS, jT, jU, jV, jW, jX, jY, hP, hk, res7, kp7, lC1, rowGet, getC, cdS, Int.reduceAdd, Int.reduceBEq, Int.reduceBNe, srcE, anS, beq_self_eq_true, bne_self_eq_false, true_and, and_self, steq_an, c1, c2, p1, p2, p3, hr16, c3, hcas, p4]
    refine Run_keep (f := fun c => if c = 0 then 0 else if c = 1 then 1 else if c = 2 then 2 else 3) (enK := enAp X Y) (slK := slAp (some ⟨b, o, none⟩) n cp key (i + 1)) hn0 (by show ∀ c d, c < 4 → d < 4 → _; intro c d h1 h2; (repeat' split) <;> omega) ?_ ?_ (hJ ⟨i + 1, X, Y, hl.skip⟩ _ (by show 41 - (i + 1) < 41 - i; omega) (fun d v h => h))
    · refine ⟨⟨_, rfl, fun ρ => rfl, ?_⟩, ⟨_, rfl, fun ρ => rfl, ?_⟩, ⟨_, rfl, fun ρ => rfl, ?_⟩, ⟨_, rfl, fun ρ => rfl, ?_⟩, trivial⟩ <;> simp [wfs, SC.wf, enAp, srcE]
    · refine ⟨⟨?_, _, rfl, fun ρ => ?_⟩, ⟨?_, _, rfl, fun ρ => rfl⟩, ⟨?_, _, rfl, fun ρ => rfl⟩, ⟨?_, _, rfl, fun ρ => rfl⟩, ⟨?_, _, rfl, fun ρ => rfl⟩, ⟨?_, _, rfl, fun ρ => rfl⟩, trivial⟩
      case refine_2 => show Value.int .i64 _ = Value.int .i64 _; rw [hj]; rfl
      all_goals simp [SV.wf, SC.wf, enAp]
  have hcas : c.hasCas = false := by simpa using hcas
  have hce : ({ c with hasCas := false } : Cd) = c := by rw [← hcas]
  simp (maxSteps := 1000000) only [VT, jf, jg, jZ, ja, jd, je, VC, qA, qB, qC, qD, qE, qF, qG, qH, qI, qJ, qK, qL, qM, qN, qO, qP, qQ, qR, qS, qT, qU, qV, qW, qX, qY, qZ, qe, qf, qg, qh, qj, qk, ql, qm, qn, qo, qp, qq, qt, qu, qv, ev, qw, qy, qz, zA, zB, zC, zD, zE, zF, zG, zH, zI, zJ, TE.sv, zK, zL, zM, ↓reduceIte, reduceCtorEq, Value.oneCell', Nat.reduceEqDiff, Nat.reduceAdd, Nat.reduceLT, Nat.reduceBEq, Nat.reduceSub, Nat.reduceLeDiff, zP, zQ, zR, zS, zT, zU, zV, zW, zX, zY, zZ, za, zb, zc, zd, ze, zf, zg, zh, zi, zj, zk, zl, zm, zn, zo, zp, zq, zr, zt, zu, zw, zx, zy, zz, cE, jA, jB, cD, cO, jC, jD, jE, jF, jG, jH, jI, jJ, jK, jL, jM, jN, jO, jP, jQ, jR, jS, jT, jU, jV, jW, jX, jY, hP, hk, res7, kp7, lC1, rowGet, getC, cdS, Int.reduceAdd, Int.reduceBEq, Int.reduceBNe, srcE, anS, beq_self_eq_true, bne_self_eq_false, true_and, and_self, steq_an, c1, c2, p1, p2, p3, hr16, c3, hcas, p4]
  by_cases hlen : (5000 : Int) < (c.val.length : Int)
  · have c4 : decide ((5000 : Int) < (c.val.length : Int)) = true := decide_eq_true hlen
    simp (maxSteps := 1000000) only [VT, jf, jg, jZ, ja, jd, je, VC, qA, qB, qC, qD, qE, qF, qG, qH, qI, qJ, qK, qL, qM, qN, qO, qP, qQ, qR, qS, qT, qU, qV, qW, qX, qY, qZ, qe, qf, qg, qh, qj, qk, ql, qm, qn, qo, qp, qq, qt, qu, qv, ev, qw, qy, qz, zA, zB, zC, zD, zE, zF, zG, zH, zI, zJ, TE.sv, zK, zL, zM, ↓reduceIte, reduceCtorEq, Value.oneCell', Nat.reduceEqDiff, Nat.reduceAdd, Nat.reduceLT, Nat.reduceBEq, Nat.reduceSub, Nat.reduceLeDiff, zP, zQ, zR, zS, zT, zU, zV, zW, zX, zY, zZ, za, zb, zc, zd, ze, zf, zg, zh, zi, zj, zk, zl, zm, zn, zo, zp, zq, zr, zt, zu, zw, zx, zy, zz, cE, jA, jB, cD, cO, jC, jD, jE, jF, jG, jH, jI, jJ, jK, jL, jM, jN, jO, jP, jQ, jR, jS, jT, jU, jV, jW, jX, jY, hP, hk, res7, kp7, lC1, rowGet, getC, cdS, Int.reduceAdd, Int.reduceBEq, Int.reduceBNe, srcE, anS, beq_self_eq_true, bne_self_eq_false, true_and, and_self, steq_an, c1, c2, p1, p2, p3, hr16, c3, hcas, c4, p4]
    refine Run_keep (f := fun c => if c = 0 then 0 else if c = 1 then 1 else if c = 2 then 2 else 3) (enK := enAp X Y) (slK := slAp (some ⟨b, o, none⟩) n cp key (i + 1)) hn0 (by show ∀ c d, c < 4 → d < 4 → _; intro c d h1 h2; (repeat' split) <;> omega) ?_ ?_ (hJ ⟨i + 1, X, Y, hl.skip⟩ _ (by show 41 - (i + 1) < 41 - i; omega) (fun d v h => h))
    · refine ⟨⟨_, rfl, fun ρ => rfl, ?_⟩, ⟨_, rfl, fun ρ => rfl, ?_⟩, ⟨_, rfl, fun ρ => rfl, ?_⟩, ⟨_, rfl, fun ρ => rfl, ?_⟩, trivial⟩ <;> simp [wfs, SC.wf, enAp, srcE]
    · refine ⟨⟨?_, _, rfl, fun ρ => ?_⟩, ⟨?_, _, rfl, fun ρ => rfl⟩, ⟨?_, _, rfl, fun ρ => rfl⟩, ⟨?_, _, rfl, fun ρ => rfl⟩, ⟨?_, _, rfl, fun ρ => rfl⟩, ⟨?_, _, rfl, fun ρ => rfl⟩, trivial⟩
      case refine_2 => show Value.int .i64 _ = Value.int .i64 _; rw [hj]; rfl
      all_goals simp [SV.wf, SC.wf, enAp]
  have c4 : decide ((5000 : Int) < (c.val.length : Int)) = false := decide_eq_false hlen
  simp (maxSteps := 1000000) only [VT, jf, jg, jZ, ja, jd, je, VC, qA, qB, qC, qD, qE, qF, qG, qH, qI, qJ, qK, qL, qM, qN, qO, qP, qQ, qR, qS, qT, qU, qV, qW, qX, qY, qZ, qe, qf, qg, qh, qj, qk, ql, qm, qn, qo, qp, qq, qt, qu, qv, ev, qw, qy, qz, zA, zB, zC, zD, zE, zF, zG, zH, zI, zJ, TE.sv, zK, zL, zM, ↓reduceIte, reduceCtorEq, Value.oneCell', Nat.reduceEqDiff, Nat.reduceAdd, Nat.reduceLT, Nat.reduceBEq, Nat.reduceSub, Nat.reduceLeDiff, zP, zQ, zR, zS, zT, zU, zV, zW, zX, zY, zZ, za, zb, zc, zd, ze, zf, zg, zh, zi, zj, zk, zl, zm, zn, zo, zp, zq, zr, zt, zu, zw, zx, zy, zz, cE, jA, jB, cD, cO, jC, jD, jE, jF, jG, jH, jI, jJ, jK, jL, jM, jN, jO, jP, jQ, jR, jS, jT, jU, jV, jW, jX, jY, hP, hk, res7, kp7, lC1, rowGet, getC, cdS, Int.reduceAdd, Int.reduceBEq, Int.reduceBNe, srcE, anS, beq_self_eq_true, bne_self_eq_false, true_and, and_self, steq_an, c1, c2, p1, p2, p3, hr16, c3, hcas, c4, p4]
  obtain ⟨y, hy⟩ : ∃ y, y = applyF X (10 + j) c 6000 := ⟨_, rfl⟩
  have gX := hl.nX.good (by omega) (by decide)
  have gY := hl.nY.good (by omega) (by decide)
  by_cases hkey : c.key = key
  · have c5 : (c.key == key) = true := by simpa using hkey
    simp (maxSteps := 1000000) only [VT, jf, jg, jZ, ja, jd, je, VC, qA, qB, qC, qD, qE, qF, qG, qH, qI, qJ, qK, qL, qM, qN, qO, qP, qQ, qR, qS, qT, qU, qV, qW, qX, qY, qZ, qe, qf, qg, qh, qj, qk, ql, qm, qn, qo, qp, qq, qt, qu, qv, ev, qw, qy, qz, zA, zB, zC, zD, zE, zF, zG, zH, zI, zJ, TE.sv, zK, zL, zM, ↓reduceIte, reduceCtorEq, Value.oneCell', Nat.reduceEqDiff, Nat.reduceAdd, Nat.reduceLT, Nat.reduceBEq, Nat.reduceSub, Nat.reduceLeDiff, zP, zQ, zR, zS, zT, zU, zV, zW, zX, zY, zZ, za, zb, zc, zd, ze, zf, zg, zh, zi, zj, zk, zl, zm, zn, zo, zp, zq, zr, zt, zu, zw, zx, zy, zz, cE, jA, jB, cD, cO, jC, jD, jE, jF, jG, jH, jI, jJ, jK, jL, jM, jN, jO, jP, jQ, jR, jS, jT, jU, jV, jW, jX, jY, hP, hk, res7, kp7, lC1, rowGet, getC, cdS, Int.reduceAdd, Int.reduceBEq, Int.reduceBNe, srcE, anS, beq_self_eq_true, bne_self_eq_false, true_and, and_self, steq_an, c1, c2, p1, p2, p3, hr16, c5, p4]
    refine Run_apply y (X := X) (c := { c with hasCas := false }) (now := 10 + j) (most := 6000) (by rw [hce]; exact hy) hP hEC (.inr ⟨2, rfl, rfl⟩) gX (by rw [hce]; exact hcd) (by rw [hn0]; exact Nat.zero_le _) rfl (by simp) ?_
    (refine VT_ok hctr (rs := res7) true 300 _ _ _ ?_; simp (maxSteps := 1000000) only [VT, jf, jg, jZ, ja, jd, je, VC, qA, qB, qC, qD, qE, qF, qG, qH, qI, qJ, qK, qL, qM, qN, qO, qP, qQ, qR, qS, qT, qU, qV, qW, qX, qY, qZ, qe, qf, qg, qh, qj, qk, ql, qm, qn, qo, qp, qq, qt, qu, qv, ev, qw, qy, qz, zA, zB, zC, zD, zE, zF, zG, zH, zI, zJ, TE.sv, zK, zL, zM, ↓reduceIte, reduceCtorEq, Value.oneCell', Nat.reduceEqDiff, Nat.reduceAdd, Nat.reduceLT, Nat.reduceBEq, Nat.reduceSub, Nat.reduceLeDiff, zP, zQ, zR, zS, zT, zU, zV, zW, zX, zY, zZ, za, zb, zc, zd, ze, zf, zg, zh, zi, zj, zk, zl, zm, zn, zo, zp, zq, zr, zt, zu, zw, zx, zy, zz, cE, jA, jB, cD, cO, jC, jD, jE, jF, jG, jH, jI, jJ, jK, jL, jM, jN, jO, jP, jQ, jR, jS, jT, jU, jV, jW, jX, jY, hP, hk, res7, kp7, lC1, rowGet, getC, cdS, Int.reduceAdd, Int.reduceBEq, Int.reduceBNe, srcE, anS, beq_self_eq_true, bne_self_eq_false, true_and, and_self, steq_an, c1, c2, p1, p2, p3, hr16, p4])
    by_cases hst : y.2.st = 0
    · have c6 : (y.2.st != 0) = false := by simpa using hst
      simp (maxSteps := 1000000) only [VT, jf, jg, jZ, ja, jd, je, VC, qA, qB, qC, qD, qE, qF, qG, qH, qI, qJ, qK, qL, qM, qN, qO, qP, qQ, qR, qS, qT, qU, qV, qW, qX, qY, qZ, qe, qf, qg, qh, qj, qk, ql, qm, qn, qo, qp, qq, qt, qu, qv, ev, qw, qy, qz, zA, zB, zC, zD, zE, zF, zG, zH, zI, zJ, TE.sv, zK, zL, zM, ↓reduceIte, reduceCtorEq, Value.oneCell', Nat.reduceEqDiff, Nat.reduceAdd, Nat.reduceLT, Nat.reduceBEq, Nat.reduceSub, Nat.reduceLeDiff, zP, zQ, zR, zS, zT, zU, zV, zW, zX, zY, zZ, za, zb, zc, zd, ze, zf, zg, zh, zi, zj, zk, zl, zm, zn, zo, zp, zq, zr, zt, zu, zw, zx, zy, zz, cE, jA, jB, cD, cO, jC, jD, jE, jF, jG, jH, jI, jJ, jK, jL, jM, jN, jO, jP, jQ, jR, jS, jT, jU, jV, jW, jX, jY, hP, hk, res7, kp7, lC1, rowGet, getC, cdS, Int.reduceAdd, Int.reduceBEq, Int.reduceBNe, srcE, anS, beq_self_eq_true, bne_self_eq_false, true_and, and_self, steq_an, c1, c2, p1, p2, p3, hr16, c6, p4]
      refine Run_keep (f := fun c => if c = 0 then 0 else if c = 1 then 1 else if c = 2 then 2 else 3) (enK := enAp X Y) (slK := slAp (some ⟨b, o, none⟩) n cp key (i + 1)) hn0 (by show ∀ c d, c < 4 → d < 4 → _; intro c d h1 h2; (repeat' split) <;> omega) ?_ ?_ (hJ ⟨i + 1, X, Y, hl.skip⟩ _ (by show 41 - (i + 1) < 41 - i; omega) (fun d v h => h))
      · refine ⟨⟨_, rfl, fun ρ => rfl, ?_⟩, ⟨_, rfl, fun ρ => rfl, ?_⟩, ⟨_, rfl, fun ρ => rfl, ?_⟩, ⟨_, rfl, fun ρ => rfl, ?_⟩, trivial⟩ <;> simp [wfs, SC.wf, enAp, srcE]
      · refine ⟨⟨?_, _, rfl, fun ρ => ?_⟩, ⟨?_, _, rfl, fun ρ => rfl⟩, ⟨?_, _, rfl, fun ρ => rfl⟩, ⟨?_, _, rfl, fun ρ => rfl⟩, ⟨?_, _, rfl, fun ρ => rfl⟩, ⟨?_, _, rfl, fun ρ => rfl⟩, trivial⟩
        case refine_2 => show Value.int .i64 _ = Value.int .i64 _; rw [hj]; rfl
        all_goals simp [SV.wf, SC.wf, enAp]
    · have c6 : (y.2.st != 0) = true := by simpa using hst
      simp (maxSteps := 1000000) only [VT, jf, jg, jZ, ja, jd, je, VC, qA, qB, qC, qD, qE, qF, qG, qH, qI, qJ, qK, qL, qM, qN, qO, qP, qQ, qR, qS, qT, qU, qV, qW, qX, qY, qZ, qe, qf, qg, qh, qj, qk, ql, qm, qn, qo, qp, qq, qt, qu, qv, ev, qw, qy, qz, zA, zB, zC, zD, zE, zF, zG, zH, zI, zJ, TE.sv, zK, zL, zM, ↓reduceIte, reduceCtorEq, Value.oneCell', Nat.reduceEqDiff, Nat.reduceAdd, Nat.reduceLT, Nat.reduceBEq, Nat.reduceSub, Nat.reduceLeDiff, zP, zQ, zR, zS, zT, zU, zV, zW, zX, zY, zZ, za, zb, zc, zd, ze, zf, zg, zh, zi, zj, zk, zl, zm, zn, zo, zp, zq, zr, zt, zu, zw, zx, zy, zz, cE, jA, jB, cD, cO, jC, jD, jE, jF, jG, jH, jI, jJ, jK, jL, jM, jN, jO, jP, jQ, jR, jS, jT, jU, jV, jW, jX, jY, hP, hk, res7, kp7, lC1, rowGet, getC, cdS, Int.reduceAdd, Int.reduceBEq, Int.reduceBNe, srcE, anS, beq_self_eq_true, bne_self_eq_false, true_and, and_self, steq_an, c1, c2, p1, p2, p3, hr16, c6, p4]
      refine Run_keep (f := fun c => if c = 0 then 0 else if c = 1 then 1 else if c = 2 then 5 else 3) (enK := enAp y.1 Y) (slK := slAp (some ⟨b, o, none⟩) n cp key (i + 1)) hn0 (by show ∀ c d, c < 4 → d < 4 → _; intro c d h1 h2; (repeat' split) <;> omega) ?_ ?_ (hJ ⟨i + 1, y.1, Y, (by rw [hy, hj] at hst ⊢; exact hl.own hkey hcas h6 hst)⟩ _ (by show 41 - (i + 1) < 41 - i; omega) (fun d v h => h))
      · refine ⟨⟨_, rfl, fun ρ => rfl, ?_⟩, ⟨_, rfl, fun ρ => rfl, ?_⟩, ⟨_, rfl, fun ρ => rfl, ?_⟩, ⟨_, rfl, fun ρ => rfl, ?_⟩, trivial⟩ <;> simp [wfs, SC.wf, enAp, srcE]
      · refine ⟨⟨?_, _, rfl, fun ρ => ?_⟩, ⟨?_, _, rfl, fun ρ => rfl⟩, ⟨?_, _, rfl, fun ρ => rfl⟩, ⟨?_, _, rfl, fun ρ => rfl⟩, ⟨?_, _, rfl, fun ρ => rfl⟩, ⟨?_, _, rfl, fun ρ => rfl⟩, trivial⟩
        case refine_2 => show Value.int .i64 _ = Value.int .i64 _; rw [hj]; rfl
        all_goals simp [SV.wf, SC.wf, enAp]
  · have c5 : (c.key == key) = false := by simpa using hkey
    simp (maxSteps := 1000000) only [VT, jf, jg, jZ, ja, jd, je, VC, qA, qB, qC, qD, qE, qF, qG, qH, qI, qJ, qK, qL, qM, qN, qO, qP, qQ, qR, qS, qT, qU, qV, qW, qX, qY, qZ, qe, qf, qg, qh, qj, qk, ql, qm, qn, qo, qp, qq, qt, qu, qv, ev, qw, qy, qz, zA, zB, zC, zD, zE, zF, zG, zH, zI, zJ, TE.sv, zK, zL, zM, ↓reduceIte, reduceCtorEq, Value.oneCell', Nat.reduceEqDiff, Nat.reduceAdd, Nat.reduceLT, Nat.reduceBEq, Nat.reduceSub, Nat.reduceLeDiff, zP, zQ, zR, zS, zT, zU, zV, zW, zX, zY, zZ, za, zb, zc, zd, ze, zf, zg, zh, zi, zj, zk, zl, zm, zn, zo, zp, zq, zr, zt, zu, zw, zx, zy, zz, cE, jA, jB, cD, cO, jC, jD, jE, jF, jG, jH, jI, jJ, jK, jL, jM, jN, jO, jP, jQ, jR, jS, jT, jU, jV, jW, jX, jY, hP, hk, res7, kp7, lC1, rowGet, getC, cdS, Int.reduceAdd, Int.reduceBEq, Int.reduceBNe, srcE, anS, beq_self_eq_true, bne_self_eq_false, true_and, and_self, steq_an, c1, c2, p1, p2, p3, hr16, c5, p4]
    refine Run_apply y (X := X) (c := { c with hasCas := false }) (now := 10 + j) (most := 6000) (by rw [hce]; exact hy) hP hEC (.inr ⟨2, rfl, rfl⟩) gX (by rw [hce]; exact hcd) (by rw [hn0]; exact Nat.zero_le _) rfl (by simp) ?_
    (refine VT_ok hctr (rs := res7) true 300 _ _ _ ?_; simp (maxSteps := 1000000) only [VT, jf, jg, jZ, ja, jd, je, VC, qA, qB, qC, qD, qE, qF, qG, qH, qI, qJ, qK, qL, qM, qN, qO, qP, qQ, qR, qS, qT, qU, qV, qW, qX, qY, qZ, qe, qf, qg, qh, qj, qk, ql, qm, qn, qo, qp, qq, qt, qu, qv, ev, qw, qy, qz, zA, zB, zC, zD, zE, zF, zG, zH, zI, zJ, TE.sv, zK, zL, zM, ↓reduceIte, reduceCtorEq, Value.oneCell', Nat.reduceEqDiff, Nat.reduceAdd, Nat.reduceLT, Nat.reduceBEq, Nat.reduceSub, Nat.reduceLeDiff, zP, zQ, zR, zS, zT, zU, zV, zW, zX, zY, zZ, za, zb, zc, zd, ze, zf, zg, zh, zi, zj, zk, zl, zm, zn, zo, zp, zq, zr, zt, zu, zw, zx, zy, zz, cE, jA, jB, cD, cO, jC, jD, jE, jF, jG, jH, jI, jJ, jK, jL, jM, jN, jO, jP, jQ, jR, jS, jT, jU, jV, jW, jX, jY, hP, hk, res7, kp7, lC1, rowGet, getC, cdS, Int.reduceAdd, Int.reduceBEq, Int.reduceBNe, srcE, anS, beq_self_eq_true, bne_self_eq_false, true_and, and_self, steq_an, c1, c2, p1, p2, p3, hr16, p4])
    obtain ⟨z, hz⟩ : ∃ z, z = applyF Y (10 + j) c 6000 := ⟨_, rfl⟩
    refine Run_apply z (X := Y) (c := { c with hasCas := false }) (now := 10 + j) (most := 6000) (by rw [hce]; exact hz) hP hEC (.inr ⟨3, rfl, rfl⟩) gY (by rw [hce]; exact hcd) (by rw [hn0]; exact Nat.zero_le _) rfl (by simp) ?_
    have hb := hl.bare (c := c) hkey hcas h6
    rw [← hj, ← hy, ← hz] at hb
    have f1 : z.2.st = y.2.st := (congrArg An.st hb).symm
    have f2 : z.2.it.key = y.2.it.key := (congrArg (fun a => a.it.key) hb).symm
    have f3 : z.2.it.flags = y.2.it.flags := (congrArg (fun a => a.it.flags) hb).symm
    have f4 : z.2.it.val = y.2.it.val := (congrArg (fun a => a.it.val) hb).symm
    have f5 : z.2.it.exp = y.2.it.exp := (congrArg (fun a => a.it.exp) hb).symm
    have f6 : z.2.it.last = y.2.it.last := (congrArg (fun a => a.it.last) hb).symm
    have f7 : z.2.it.stale = y.2.it.stale := (congrArg (fun a => a.it.stale) hb).symm
    have f8 : z.2.it.won = y.2.it.won := (congrArg (fun a => a.it.won) hb).symm
    have f9 : z.2.num = y.2.num := (congrArg An.num hb).symm
    have f10 : z.2.w = y.2.w := (congrArg An.w hb).symm
    have f11 : z.2.x = y.2.x := (congrArg An.x hb).symm
    have f12 : z.2.z = y.2.z := (congrArg An.z hb).symm
    (refine VT_ok hctr (rs := res7) true 300 _ _ _ ?_; simp (maxSteps := 1000000) only [VT, jf, jg, jZ, ja, jd, je, VC, qA, qB, qC, qD, qE, qF, qG, qH, qI, qJ, qK, qL, qM, qN, qO, qP, qQ, qR, qS, qT, qU, qV, qW, qX, qY, qZ, qe, qf, qg, qh, qj, qk, ql, qm, qn, qo, qp, qq, qt, qu, qv, ev, qw, qy, qz, zA, zB, zC, zD, zE, zF, zG, zH, zI, zJ, TE.sv, zK, zL, zM, ↓reduceIte, reduceCtorEq, Value.oneCell', Nat.reduceEqDiff, Nat.reduceAdd, Nat.reduceLT, Nat.reduceBEq, Nat.reduceSub, Nat.reduceLeDiff, zP, zQ, zR, zS, zT, zU, zV, zW, zX, zY, zZ, za, zb, zc, zd, ze, zf, zg, zh, zi, zj, zk, zl, zm, zn, zo, zp, zq, zr, zt, zu, zw, zx, zy, zz, cE, jA, jB, cD, cO, jC, jD, jE, jF, jG, jH, jI, jJ, jK, jL, jM, jN, jO, jP, jQ, jR, jS, jT, jU, jV, jW, jX, jY, hP, hk, res7, kp7, lC1, rowGet, getC, cdS, Int.reduceAdd, Int.reduceBEq, Int.reduceBNe, srcE, anS, beq_self_eq_true, bne_self_eq_false, true_and, and_self, steq_an, c1, c2, p1, p2, p3, hr16, p4, f1, f2, f3, f4, f5, f6, f7, f8, f9, f10, f11, f12, steq_an])
    by_cases hst : y.2.st = 0
    · have c6 : (y.2.st != 0) = false := by simpa using hst
      simp (maxSteps := 1000000) only [VT, jf, jg, jZ, ja, jd, je, VC, qA, qB, qC, qD, qE, qF, qG, qH, qI, qJ, qK, qL, qM, qN, qO, qP, qQ, qR, qS, qT, qU, qV, qW, qX, qY, qZ, qe, qf, qg, qh, qj, qk, ql, qm, qn, qo, qp, qq, qt, qu, qv, ev, qw, qy, qz, zA, zB, zC, zD, zE, zF, zG, zH, zI, zJ, TE.sv, zK, zL, zM, ↓reduceIte, reduceCtorEq, Value.oneCell', Nat.reduceEqDiff, Nat.reduceAdd, Nat.reduceLT, Nat.reduceBEq, Nat.reduceSub, Nat.reduceLeDiff, zP, zQ, zR, zS, zT, zU, zV, zW, zX, zY, zZ, za, zb, zc, zd, ze, zf, zg, zh, zi, zj, zk, zl, zm, zn, zo, zp, zq, zr, zt, zu, zw, zx, zy, zz, cE, jA, jB, cD, cO, jC, jD, jE, jF, jG, jH, jI, jJ, jK, jL, jM, jN, jO, jP, jQ, jR, jS, jT, jU, jV, jW, jX, jY, hP, hk, res7, kp7, lC1, rowGet, getC, cdS, Int.reduceAdd, Int.reduceBEq, Int.reduceBNe, srcE, anS, beq_self_eq_true, bne_self_eq_false, true_and, and_self, steq_an, c1, c2, p1, p2, p3, hr16, c6, p4]
      refine Run_keep (f := fun c => if c = 0 then 0 else if c = 1 then 1 else if c = 2 then 2 else 3) (enK := enAp X Y) (slK := slAp (some ⟨b, o, none⟩) n cp key (i + 1)) hn0 (by show ∀ c d, c < 4 → d < 4 → _; intro c d h1 h2; (repeat' split) <;> omega) ?_ ?_ (hJ ⟨i + 1, X, Y, hl.skip⟩ _ (by show 41 - (i + 1) < 41 - i; omega) (fun d v h => h))
      · refine ⟨⟨_, rfl, fun ρ => rfl, ?_⟩, ⟨_, rfl, fun ρ => rfl, ?_⟩, ⟨_, rfl, fun ρ => rfl, ?_⟩, ⟨_, rfl, fun ρ => rfl, ?_⟩, trivial⟩ <;> simp [wfs, SC.wf, enAp, srcE]
      · refine ⟨⟨?_, _, rfl, fun ρ => ?_⟩, ⟨?_, _, rfl, fun ρ => rfl⟩, ⟨?_, _, rfl, fun ρ => rfl⟩, ⟨?_, _, rfl, fun ρ => rfl⟩, ⟨?_, _, rfl, fun ρ => rfl⟩, ⟨?_, _, rfl, fun ρ => rfl⟩, trivial⟩
        case refine_2 => show Value.int .i64 _ = Value.int .i64 _; rw [hj]; rfl
        all_goals simp [SV.wf, SC.wf, enAp]
    · have c6 : (y.2.st != 0) = true := by simpa using hst
      simp (maxSteps := 1000000) only [VT, jf, jg, jZ, ja, jd, je, VC, qA, qB, qC, qD, qE, qF, qG, qH, qI, qJ, qK, qL, qM, qN, qO, qP, qQ, qR, qS, qT, qU, qV, qW, qX, qY, qZ, qe, qf, qg, qh, qj, qk, ql, qm, qn, qo, qp, qq, qt, qu, qv, ev, qw, qy, qz, zA, zB, zC, zD, zE, zF, zG, zH, zI, zJ, TE.sv, zK, zL, zM, ↓reduceIte, reduceCtorEq, Value.oneCell', Nat.reduceEqDiff, Nat.reduceAdd, Nat.reduceLT, Nat.reduceBEq, Nat.reduceSub, Nat.reduceLeDiff, zP, zQ, zR, zS, zT, zU, zV, zW, zX, zY, zZ, za, zb, zc, zd, ze, zf, zg, zh, zi, zj, zk, zl, zm, zn, zo, zp, zq, zr, zt, zu, zw, zx, zy, zz, cE, jA, jB, cD, cO, jC, jD, jE, jF, jG, jH, jI, jJ, jK, jL, jM, jN, jO, jP, jQ, jR, jS, jT, jU, jV, jW, jX, jY, hP, hk, res7, kp7, lC1, rowGet, getC, cdS, Int.reduceAdd, Int.reduceBEq, Int.reduceBNe, srcE, anS, beq_self_eq_true, bne_self_eq_false, true_and, and_self, steq_an, c1, c2, p1, p2, p3, hr16, c6, p4]
      refine Run_keep (f := fun c => if c = 0 then 0 else if c = 1 then 1 else if c = 2 then 5 else 8) (enK := enAp y.1 z.1) (slK := slAp (some ⟨b, o, none⟩) n cp key (i + 1)) hn0 (by show ∀ c d, c < 4 → d < 4 → _; intro c d h1 h2; (repeat' split) <;> omega) ?_ ?_ (hJ ⟨i + 1, y.1, z.1, (by rw [hy, hj] at hst; rw [hy, hz, hj]; exact hl.both hkey hcas h6 hst)⟩ _ (by show 41 - (i + 1) < 41 - i; omega) (fun d v h => h))
      · refine ⟨⟨_, rfl, fun ρ => rfl, ?_⟩, ⟨_, rfl, fun ρ => rfl, ?_⟩, ⟨_, rfl, fun ρ => rfl, ?_⟩, ⟨_, rfl, fun ρ => rfl, ?_⟩, trivial⟩ <;> simp [wfs, SC.wf, enAp, srcE]
      · refine ⟨⟨?_, _, rfl, fun ρ => ?_⟩, ⟨?_, _, rfl, fun ρ => rfl⟩, ⟨?_, _, rfl, fun ρ => rfl⟩, ⟨?_, _, rfl, fun ρ => rfl⟩, ⟨?_, _, rfl, fun ρ => rfl⟩, ⟨?_, _, rfl, fun ρ => rfl⟩, trivial⟩
        case refine_2 => show Value.int .i64 _ = Value.int .i64 _; rw [hj]; rfl
        all_goals simp [SV.wf, SC.wf, enAp]
end Go.Proofs.YtfmpdbngpknmaaaDoor
