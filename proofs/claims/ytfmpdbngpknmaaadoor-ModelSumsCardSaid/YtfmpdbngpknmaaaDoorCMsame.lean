/- ambryref16.Same of two states that are the same. -/
import Derived.Test.YtfmpdbngpknmaaaDoorCEqAn
import Derived.Test.YtfmpdbngpknmaaaDoorBJ
import Derived.Test.YtfmpdbngpknmaaaDoorBB
namespace Go.Proofs.YtfmpdbngpknmaaaDoor
set_option linter.unusedSimpArgs false
set_option linter.unusedVariables false
set_option linter.unusedSimpArgs false
set_option linter.unusedVariables false
set_option maxHeartbeats 8000000
open Go.RowKit

/-- a slice whose cells are these items -/
def AtI (w : World) (a : Option Addr) (xs : List It) : Prop := ∀ k x, xs[k]? = some x → ∃ g, a = some ⟨g, 0, none⟩ ∧ g < w.heap.size ∧ ∀ j, j < 8 → w.cell? ⟨g, k * 8 + j, none⟩ = x.cells[j]?
theorem at_own {base : Nat} {w : World} {v : Value} {xs : List It} (h : OwnI base w v xs) : ∃ a c, v = .slice a xs.length c ∧ AtI w a xs := by
  rcases h with ⟨p, rfl, rfl⟩ | ⟨g, cap, R, rfl, _, _, hI⟩
  · exact ⟨p, 0, rfl, fun k x hx => by simp at hx⟩
  · exact ⟨_, _, rfl, fun k x hx => ⟨g, rfl, hI.lt, fun j hj => hI.at hx j hj⟩⟩
theorem AtI.below {w w' : World} {a : Option Addr} {xs : List It} (h : AtI w a xs) (hb : Below w.heap.size w w') : AtI w' a xs := fun k x hx => by
  obtain ⟨g, h1, h2, h3⟩ := h k x hx
  refine ⟨g, h1, Nat.lt_of_lt_of_le h2 hb.size, fun j hj => ?_⟩
  rw [← h3 j hj]
  unfold World.cell?
  rw [hb.block g h2]

def enSm (a b : Option Addr) (n c d : Nat) (cas flush : Int) : List EN := [⟨(29, 0, whole), [.v (.slice a n c), .i .u64 cas, .i .i64 flush], true⟩, ⟨(29, 0, whole), [.v (.slice b n d), .i .u64 cas, .i .i64 flush], true⟩]
def slSm (i : Nat) : List (Nat × SV) := [(5, .c (.i .i64 (i : Int))), (3, .c (.p 1 0)), (2, .c (.p 0 0))]
set_option maxRecDepth 100000
theorem same_at (xs : List It) (cas flush : Int) (a b : Option Addr) (c d : Nat) (w : World) (ha : AtI w a xs) (hb : AtI w b xs) (hn : xs.length ≤ 100000000) :
    Calls Tryd.prog 14 #[.agg #[.slice a xs.length c, .int .u64 cas, .int .i64 flush], .agg #[.slice b xs.length d, .int .u64 cas, .int .i64 flush]] w fun e w' => e = .returned (.bool true) ∧ Below w.heap.size w w' := by
  obtain ⟨n, hnn⟩ : ∃ n, n = xs.length := ⟨_, rfl⟩
  rw [← hnn] at hn ⊢
  refine calls_of_Run Tryd.func14 rfl kp14 (S := Non) (ρ := fun _ => ⟨0, [], [], 0, none⟩) (en := []) [.g [.v (.slice a n c), .i .u64 cas, .i .i64 flush], .g [.v (.slice b n d), .i .u64 cas, .i .i64 flush]] Tryd.ntmps14 (At.nil _ _ _) (by simp [SV.wf, SC.wf, wfs]) (by simp) ?_
  intro C hC hP hk
  have hctr := noC_ok hP
  have hn0 : C.n0 = 0 := by rw [hC]; rfl
  have hS : C.S = Non := by rw [hC]; rfl
  have hw0 : C.w0 = w := by rw [hC]; rfl
  (refine VT_ok hctr (rs := res14) true 300 _ _ _ ?_; simp (maxSteps := 1000000) only [VT, jf, jg, jZ, ja, jd, je, VC, qA, qB, qC, qD, qE, qF, qG, qH, qI, qJ, qK, qL, qM, qN, qO, qP, qQ, qR, qS, qT, qU, qV, qW, qX, qY, qZ, qe, qf, qg, qh, qj, qk, ql, qm, qn, qo, qp, qq, qt, qu, qv, ev, qw, qy, qz, zA, zB, zC, zD, zE, zF, zG, zH, zI, zJ, TE.sv, zK, zL, zM, ↓reduceIte, reduceCtorEq, Value.oneCell', Nat.reduceEqDiff, Nat.reduceAdd, Nat.reduceLT, Nat.reduceBEq, Nat.reduceSub, Nat.reduceLeDiff, zP, zQ, zR, zS, zT, zU, zV, zW, zX, zY, zZ, za, zb, zc, zd, ze, zf, zg, zh, zi, zj, zk, zl, zm, zn, zo, zp, zq, zr, zt, zu, zw, zx, zy, zz, cE, jA, jB, cD, cO, jC, jD, jE, jF, jG, jH, jI, jJ, jK, jL, jM, jN, jO, jP, jQ, jR, jS, jT, jU, jV, jW, jX, jY, hP, hk, res14, kp14, noC, beq_self_eq_true, bne_self_eq_false, true_and])
  refine Run_loopD (slSm) (fun _ => enSm a b n c d cas flush) (fun i => n + 1 - i) 0 (sub_mk ⟨rfl, rfl, rfl, trivial⟩) rfl ?_
  intro i D dP dS dw dn dk _ hX hJ
  have hP0 := hP; have hk1 := hk; have hctr0 := hctr; have hn00 := hn0
  have hP : D.P = Tryd.prog := by rw [dP]; exact hP0
  have hk : D.kp = kp14 := by rw [dk]; exact hk1
  have hctr := noC_ok hP
  have hn0 : D.n0 = 0 := by rw [dn]; exact hn00
  have hS' : D.S = Non := by rw [dS]; exact hS
  have hw' : D.w0 = w := by rw [dw]; exact hw0
  obtain ⟨j, hj⟩ : ∃ j : Int, j = (i : Int) := ⟨_, rfl⟩
  show Run D _ _ [(5, .c (.i .i64 (i : Int))), (3, .c (.p 1 0)), (2, .c (.p 0 0))] [⟨(29, 0, whole), [.v (.slice a n c), .i .u64 cas, .i .i64 flush], true⟩, ⟨(29, 0, whole), [.v (.slice b n d), .i .u64 cas, .i .i64 flush], true⟩]
  rw [← hj]
  by_cases hjn : j < (n : Int)
  · have c1 : decide (j < (n : Int)) = true := decide_eq_true hjn
    have p1 : 0 ≤ j := by omega
    have p3 : IntKind.i64.wrap (j + 1) = j + 1 := IntWalk.i64_in _ (by omega)
    obtain ⟨x, hx⟩ : ∃ x, xs[i]? = some x := ⟨xs[i]'(by omega), List.getElem?_eq_getElem _⟩
    obtain ⟨g, rfl, hg, hc⟩ := ha i x hx
    obtain ⟨g2, rfl, hg2, hc2⟩ := hb i x hx
    have hji : j.toNat = i := by omega
    have hrA : D.rd g (j.toNat * 8) 8 = some (itS x) := by
      rw [hji]
      refine rd_arg (vs := x.cells) hS' hw' hg (fun q v hv => ?_) rfl
      rw [hc q (by have := (List.getElem?_eq_some_iff.1 hv).1; exact this)]; exact hv
    have hrB : D.rd g2 (j.toNat * 8) 8 = some (itS x) := by
      rw [hji]
      refine rd_arg (vs := x.cells) hS' hw' hg2 (fun q v hv => ?_) rfl
      rw [hc2 q (by have := (List.getElem?_eq_some_iff.1 hv).1; exact this)]; exact hv
    (refine VT_ok hctr (rs := res14) true 300 _ _ _ ?_; simp (maxSteps := 1000000) only [VT, jf, jg, jZ, ja, jd, je, VC, qA, qB, qC, qD, qE, qF, qG, qH, qI, qJ, qK, qL, qM, qN, qO, qP, qQ, qR, qS, qT, qU, qV, qW, qX, qY, qZ, qe, qf, qg, qh, qj, qk, ql, qm, qn, qo, qp, qq, qt, qu, qv, ev, qw, qy, qz, zA, zB, zC, zD, zE, zF, zG, zH, zI, zJ, TE.sv, zK, zL, zM, ↓reduceIte, reduceCtorEq, Value.oneCell', Nat.reduceEqDiff, Nat.reduceAdd, Nat.reduceLT, Nat.reduceBEq, Nat.reduceSub, Nat.reduceLeDiff, zP, zQ, zR, zS, zT, zU, zV, zW, zX, zY, zZ, za, zb, zc, zd, ze, zf, zg, zh, zi, zj, zk, zl, zm, zn, zo, zp, zq, zr, zt, zu, zw, zx, zy, zz, cE, jA, jB, cD, cO, jC, jD, jE, jF, jG, jH, jI, jJ, jK, jL, jM, jN, jO, jP, jQ, jR, jS, jT, jU, jV, jW, jX, jY, hP, hk, res14, kp14, noC, c1])
    (refine Run_drawE hctr (by rw [hP]; rfl) rs14_6 [] (ensure_type_of% (Cmp.of (by simp (maxSteps := 1000000) only [VC, qA, qB, qC, qD, qE, qF, qG, qH, qI, qJ, qK, qL, qM, qN, qO, qP, qQ, qR, qS, qT, qU, qV, qW, qX, qY, qZ, qe, qf, qg, qh, qj, qk, ql, qm, qn, qo, qp, qq, qt, qu, qv, ev, qw, qy, qz, zA, zB, zC, zD, zE, zF, zG, zH, zI, zJ, TE.sv, zK, zL, zM, ↓reduceIte, reduceCtorEq, Value.oneCell', Nat.reduceEqDiff, Nat.reduceAdd, Nat.reduceLT, Nat.reduceBEq, Nat.reduceSub, Nat.reduceLeDiff, zP, zQ, zR, zS, zT, zU, zV, zW, zX, zY, zZ, za, zb, zc, zd, ze, zf, zg, zh, zi, zj, zk, zl, zm, zn, zo, zp, zq, zr, zt, zu, zw, zx, zy, zz, cE, jA, jB, cD, cO, jC, jD, jE, jF, jG, jH, jI, jJ, jK, jL, jM, jN, jO, jP, jQ, jR, jS, jT, jU, jV, jW, jX, jY, hP, noC, c1, hrA, hrB, p1, hjn, p3, itS, steq_it, beq_self_eq_true, bne_self_eq_false, true_and, and_self]; rfl)) "" Cmp.mk) (by kernel_rfl) (by kernel_rfl) (by first | exact lenB_one _ | kernel_rfl) (by kernel_rfl) (by rfl) (by rfl) (by first | exact firstN_self _ | rfl) (by rfl) ?_ ?_; rotate_left; refine VT_ok hctr (rs := res14) true 300 _ _ _ ?_; simp (maxSteps := 1000000) only [VT, jf, jg, jZ, ja, jd, je, VC, qA, qB, qC, qD, qE, qF, qG, qH, qI, qJ, qK, qL, qM, qN, qO, qP, qQ, qR, qS, qT, qU, qV, qW, qX, qY, qZ, qe, qf, qg, qh, qj, qk, ql, qm, qn, qo, qp, qq, qt, qu, qv, ev, qw, qy, qz, zA, zB, zC, zD, zE, zF, zG, zH, zI, zJ, TE.sv, zK, zL, zM, ↓reduceIte, reduceCtorEq, Value.oneCell', Nat.reduceEqDiff, Nat.reduceAdd, Nat.reduceLT, Nat.reduceBEq, Nat.reduceSub, Nat.reduceLeDiff, zP, zQ, zR, zS, zT, zU, zV, zW, zX, zY, zZ, za, zb, zc, zd, ze, zf, zg, zh, zi, zj, zk, zl, zm, zn, zo, zp, zq, zr, zt, zu, zw, zx, zy, zz, cE, jA, jB, cD, cO, jC, jD, jE, jF, jG, jH, jI, jJ, jK, jL, jM, jN, jO, jP, jQ, jR, jS, jT, jU, jV, jW, jX, jY, hP, hk, res14, kp14, noC, c1, hrA, hrB, p1, hjn, p3, itS, steq_it, beq_self_eq_true, bne_self_eq_false, true_and, and_self]; rotate_left; simp (maxSteps := 1000000) only [VC, qA, qB, qC, qD, qE, qF, qG, qH, qI, qJ, qK, qL, qM, qN, qO, qP, qQ, qR, qS, qT, qU, qV, qW, qX, qY, qZ, qe, qf, qg, qh, qj, qk, ql, qm, qn, qo, qp, qq, qt, qu, qv, ev, qw, qy, qz, zA, zB, zC, zD, zE, zF, zG, zH, zI, zJ, TE.sv, zK, zL, zM, ↓reduceIte, reduceCtorEq, Value.oneCell', Nat.reduceEqDiff, Nat.reduceAdd, Nat.reduceLT, Nat.reduceBEq, Nat.reduceSub, Nat.reduceLeDiff, zP, zQ, zR, zS, zT, zU, zV, zW, zX, zY, zZ, za, zb, zc, zd, ze, zf, zg, zh, zi, zj, zk, zl, zm, zn, zo, zp, zq, zr, zt, zu, zw, zx, zy, zz, cE, jA, jB, cD, cO, jC, jD, jE, jF, jG, jH, jI, jJ, jK, jL, jM, jN, jO, jP, jQ, jR, jS, jT, jU, jV, jW, jX, jY, hP, noC, c1, hrA, hrB, p1, hjn, p3, itS, steq_it, beq_self_eq_true, bne_self_eq_false, true_and, and_self])
    refine Run_keep (f := fun c => c) (enK := enSm (some ⟨g, 0, none⟩) (some ⟨g2, 0, none⟩) n c d cas flush) (slK := slSm (i + 1)) hn0 (fun _ _ _ _ h => h) ?_ ?_ (hJ (i + 1) _ (by omega) (fun d v h => h))
    · refine ⟨⟨_, rfl, fun ρ => rfl, ?_⟩, ⟨_, rfl, fun ρ => rfl, ?_⟩, trivial⟩ <;> simp [wfs, SC.wf, enSm]
    · refine ⟨⟨?_, _, rfl, fun ρ => ?_⟩, ⟨?_, _, rfl, fun ρ => rfl⟩, ⟨?_, _, rfl, fun ρ => rfl⟩, trivial⟩
      case refine_2 => show Value.int .i64 _ = Value.int .i64 _; rw [hj]; rfl
      all_goals simp [SV.wf, SC.wf, enSm]
  · have c1 : decide (j < (n : Int)) = false := decide_eq_false hjn
    (refine VT_ok hctr (rs := res14) true 300 _ _ _ ?_; simp (maxSteps := 1000000) only [VT, jf, jg, jZ, ja, jd, je, VC, qA, qB, qC, qD, qE, qF, qG, qH, qI, qJ, qK, qL, qM, qN, qO, qP, qQ, qR, qS, qT, qU, qV, qW, qX, qY, qZ, qe, qf, qg, qh, qj, qk, ql, qm, qn, qo, qp, qq, qt, qu, qv, ev, qw, qy, qz, zA, zB, zC, zD, zE, zF, zG, zH, zI, zJ, TE.sv, zK, zL, zM, ↓reduceIte, reduceCtorEq, Value.oneCell', Nat.reduceEqDiff, Nat.reduceAdd, Nat.reduceLT, Nat.reduceBEq, Nat.reduceSub, Nat.reduceLeDiff, zP, zQ, zR, zS, zT, zU, zV, zW, zX, zY, zZ, za, zb, zc, zd, ze, zf, zg, zh, zi, zj, zk, zl, zm, zn, zo, zp, zq, zr, zt, zu, zw, zx, zy, zz, cE, jA, jB, cD, cO, jC, jD, jE, jF, jG, jH, jI, jJ, jK, jL, jM, jN, jO, jP, jQ, jR, jS, jT, jU, jV, jW, jX, jY, hP, hk, res14, kp14, noC, c1])
    refine hX rfl rfl ?_
    have hP := hP0; have hk := hk1; have hctr := hctr0; have hn0 := hn00
    (refine VT_ok hctr (rs := res14) true 300 _ _ _ ?_; simp (maxSteps := 1000000) only [VT, jf, jg, jZ, ja, jd, je, VC, qA, qB, qC, qD, qE, qF, qG, qH, qI, qJ, qK, qL, qM, qN, qO, qP, qQ, qR, qS, qT, qU, qV, qW, qX, qY, qZ, qe, qf, qg, qh, qj, qk, ql, qm, qn, qo, qp, qq, qt, qu, qv, ev, qw, qy, qz, zA, zB, zC, zD, zE, zF, zG, zH, zI, zJ, TE.sv, zK, zL, zM, ↓reduceIte, reduceCtorEq, Value.oneCell', Nat.reduceEqDiff, Nat.reduceAdd, Nat.reduceLT, Nat.reduceBEq, Nat.reduceSub, Nat.reduceLeDiff, zP, zQ, zR, zS, zT, zU, zV, zW, zX, zY, zZ, za, zb, zc, zd, ze, zf, zg, zh, zi, zj, zk, zl, zm, zn, zo, zp, zq, zr, zt, zu, zw, zx, zy, zz, cE, jA, jB, cD, cO, jC, jD, jE, jF, jG, jH, jI, jJ, jK, jL, jM, jN, jO, jP, jQ, jR, jS, jT, jU, jV, jW, jX, jY, hP, hk, res14, kp14, noC])
    exact lawFin hC hres14 rfl
theorem same_own (X : St) (v v' : Value) (w : World) (h : OwnI 0 w v X.items) (h' : OwnI 0 w v' X.items) (hn : X.items.length ≤ 100000000) :
    Calls Tryd.prog 14 #[.agg #[v, .int .u64 X.cas, .int .i64 X.flush], .agg #[v', .int .u64 X.cas, .int .i64 X.flush]] w fun e w' => e = .returned (.bool true) ∧ Below w.heap.size w w' := by
  obtain ⟨a, c, rfl, ha⟩ := at_own h
  obtain ⟨b, d, rfl, hb⟩ := at_own h'
  exact same_at X.items X.cas X.flush a b c d w ha hb hn
end Go.Proofs.YtfmpdbngpknmaaaDoor
