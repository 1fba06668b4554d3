/- MetaParses, walked. Printed by gen_edoc12.py. -/
import Derived.Test.YtlaagebdbcmckaaGreatDoorCEdoc11
import Derived.Test.YtlaagebdbcmckaaGreatDoorCEshownS
import Derived.Test.YtlaagebdbcmckaaGreatDoorCEsame
import Derived.Test.YtlaagebdbcmckaaGreatDoorCSxForget
import Derived.Test.YtlaagebdbcmckaaGreatDoorBB
import Derived.Test.YtlaagebdbcmckaaGreatDoorCSxAlias
import Derived.Test.YtlaagebdbcmckaaGreatDoorBM
namespace Go.Proofs.YtlaagebdbcmckaaGreatDoor
set_option linter.unusedSimpArgs false
set_option linter.unusedVariables false
set_option linter.unusedSimpArgs false
set_option linter.unusedVariables false
set_option maxHeartbeats 8000000
open Go.RowKit
set_option maxRecDepth 100000
def paC (r : Mq) : Ctr := fun f en xs => match f with
  | 10 => (match xs with
    | [] => some (True, .c (.b true))
    | _ => none)
  | 13 => rowSame r en xs
  | _ => none
theorem paC_ok {C : Cx} {r : Mq} (hP : C.P = Tryz.prog) (hE : ∀ w, Upd C.S C.w0 w → EnvT w) : CtrOk C (paC r) := by
  intro f en xs p v h hp ρ w hup hHp hHo hinj hwf
  unfold paC at h
  split at h
  · rw [hP]
    refine ⟨fun args w => Tryz.call10 args w, ?_⟩
    split at h <;> simp only [Option.some.injEq, Prod.mk.injEq, reduceCtorEq] at h
    obtain ⟨_, rfl⟩ := h
    exact ⟨trivial, shownM_w w (hE w hup)⟩
  · rw [hP]; exact ⟨fun args w => Tryz.call13 args w, rowSame_ok h hp hHp hHo⟩
  · cases h
theorem dparse_h {C : Cx} {nE N : Nat} {mk : Nat → Prop} {en en' : List EN} (b : List UInt8) {x : Mq × Int} (hx : mParse b = x) (hb : b.length ≤ 9223372036854775806) (hP : C.P = Tryz.prog) (hE : EnvC C) (hmk : ∀ q, mk q ↔ q = N ∨ q = N + 1) (hn0 : C.n0 ≤ N) (hN : zD en' N = some (cmE x.1)) (hM : zD en' (N + 1) = some (flE x.1)) (hq : ∀ q, q ≠ N → q ≠ N + 1 → zD en' q = zD en q) :
    HCall C nE mk en en' 11 [.c (.s b)] (pmV x N) := by
  refine fresh2_h (N := N) (M := N + 1) (e1 := cmE x.1) (e2 := flE x.1) (vals1 := ecV x.1.cmds) (vals2 := x.1.flags.map encW) (fun args w => by rw [hP]; exact Tryz.call11 args w) hmk (by omega) hn0 (by omega) hN hM hq (by show ¬ (33 : Nat) = DEAD; decide) (by show ¬ (9 : Nat) = DEAD; decide) (fun ρ => ec_den ρ _) (fun ρ => st_den ρ _) (fun pr => ec_wf pr _) (fun pr => st_wf pr _) (fun pr h1 h2 => ?_) ?_
  · intro y hy
    simp only [List.mem_cons, List.not_mem_nil, or_false] at hy
    rcases hy with rfl | rfl
    · exact mqR_wf h1 h2
    · trivial
  · intro ρ pr w hw _ _
    rw [hP]
    refine (dparse_w b hb w (hE w hw.up)).mono ?_
    rintro z w' ⟨hbl, v, rfl, r1, r2, rfl, m1, m2, m3⟩
    rw [hx] at *
    refine ⟨r1, r2, m1.made (fun ρ => ec_den ρ _), m2.made (fun ρ => st_den ρ _), m3, fun ρ' _ e1 e2 => ?_, hbl⟩
    rw [← e1, ← e2]; rfl
theorem st_lay {L : List (List UInt8)} {j : Nat} (hj : j < L.length) (y : List UInt8) : zC j [SC.s y] (L.map SC.s) = some ((L.set j y).map SC.s) := by
  have h := flatG_lay (f := fun x : List UInt8 => [SC.s x]) (z := 1) (fun _ => rfl) (xs := L) (i := j) (y := y) (List.getElem?_eq_getElem hj)
  have e : ∀ M : List (List UInt8), flatG (fun x : List UInt8 => [SC.s x]) M = M.map SC.s := fun M => by
    induction M with
    | nil => rfl
    | cons a t ih => simp only [flatG, List.flatMap_cons, List.map_cons] at ih ⊢; rw [ih]; rfl
  rw [e, e, Nat.mul_one] at h
  exact h
def rdE (cv fl : SC) (r : Mq) : EN := ⟨(26, 0, whole), mqS cv fl r, true⟩
def tyF (r : Mq) : TypeId × Nat × (RE → Prop) := (9, 0, rowP 1 r.flags.length (r.flags.map SC.s).length)
def tyC (r : Mq) : TypeId × Nat × (RE → Prop) := (33, 0, rowP 16 r.cmds.length (flatG ecS r.cmds).length)
def bsE (r : Mq) : List EN := [cmE r, flE r, rdE (.rw 0 r.cmds.length) (.rw 1 r.flags.length) r]
def enP (r : Mq) (cv fl : SC) (cc cf : List SC) : List EN := [cmE r, flE r, rdE (.rw 0 r.cmds.length) (.rw 1 r.flags.length) r, ⟨tyC r, cc, true⟩, ⟨tyF r, cf, true⟩, rdE cv fl r]
theorem ali_rq2 {r : Mq} {m : Nat} {cv : SC} {cc cf : List SC} : aliE (fun ρ => (SC.sl 4 0 r.flags.length m).den ρ = (SC.rw 4 r.flags.length).den ρ) 6 (enP r cv (.rw 4 r.flags.length) cc cf) (enP r cv (.sl 4 0 r.flags.length m) cc cf) := by
  have e : ∀ x : EN, x.ty = x.ty ∧ x.mu = x.mu ∧ (∀ ρ : Nat → RE, (SC.sl 4 0 r.flags.length m).den ρ = (SC.rw 4 r.flags.length).den ρ → dens ρ x.cells = dens ρ x.cells) ∧ (wfs (· < 6) x.cells → wfs (· < 6) x.cells) := fun x => ⟨rfl, rfl, fun _ _ => rfl, id⟩
  refine ⟨e _, e _, e _, e _, e _, ⟨rfl, rfl, fun ρ h => ?_, fun h => ?_⟩, trivial⟩
  · simp only [rdE, mqS, dens, List.map_cons, List.map_nil, h]
  · intro x hx
    simp only [rdE, mqS, List.mem_cons, List.not_mem_nil, or_false] at hx h
    rcases hx with rfl | rfl | rfl | rfl | rfl | rfl | rfl | rfl | rfl | rfl | rfl
    case inr.inr.inr.inr.inr.inr.inr.inr.inr.inl => show (4 : Nat) < 6; decide
    case inr.inl => exact h _ (by simp)
    all_goals trivial
theorem ali_rq3 {r : Mq} {m : Nat} {fl : SC} {cc cf : List SC} : aliE (fun ρ => (SC.sl 3 0 r.cmds.length m).den ρ = (SC.rw 3 r.cmds.length).den ρ) 6 (enP r (.rw 3 r.cmds.length) fl cc cf) (enP r (.sl 3 0 r.cmds.length m) fl cc cf) := by
  have e : ∀ x : EN, x.ty = x.ty ∧ x.mu = x.mu ∧ (∀ ρ : Nat → RE, (SC.sl 3 0 r.cmds.length m).den ρ = (SC.rw 3 r.cmds.length).den ρ → dens ρ x.cells = dens ρ x.cells) ∧ (wfs (· < 6) x.cells → wfs (· < 6) x.cells) := fun x => ⟨rfl, rfl, fun _ _ => rfl, id⟩
  refine ⟨e _, e _, e _, e _, e _, ⟨rfl, rfl, fun ρ h => ?_, fun h => ?_⟩, trivial⟩
  · simp only [rdE, mqS, dens, List.map_cons, List.map_nil, h]
  · intro x hx
    simp only [rdE, mqS, List.mem_cons, List.not_mem_nil, or_false] at hx h
    rcases hx with rfl | rfl | rfl | rfl | rfl | rfl | rfl | rfl | rfl | rfl | rfl
    case inr.inl => show (3 : Nat) < 6; decide
    case inr.inr.inr.inr.inr.inr.inr.inr.inr.inl => exact h _ (by simp)
    all_goals trivial
def slP (b : List UInt8) (L : Int) (y : Nat) : List (Nat × SV) := [(6, .c (.i .i64 (y : Int))), (5, .c (.i .i64 L)), (4, .c (.p 2 0)), (3, .c (.b true)), (0, .c (.s b))]
def slP2 (b : List UInt8) (L : Int) (y j : Nat) : List (Nat × SV) := [(10, .c (.i .i64 (j : Int))), (7, .c (.p 5 0)), (6, .c (.i .i64 (y : Int))), (5, .c (.i .i64 L)), (4, .c (.p 2 0)), (3, .c (.b true)), (0, .c (.s b))]
def slP4 (b : List UInt8) (L : Int) (y : Nat) : List (Nat × SV) := [(7, .c (.p 5 0)), (6, .c (.i .i64 (y : Int))), (5, .c (.i .i64 L)), (4, .c (.p 2 0)), (3, .c (.b true)), (0, .c (.s b))]
def slP3 (b : List UInt8) (L : Int) (y j : Nat) : List (Nat × SV) := [(11, .c (.i .i64 (j : Int))), (7, .c (.p 5 0)), (6, .c (.i .i64 (y : Int))), (5, .c (.i .i64 L)), (4, .c (.p 2 0)), (3, .c (.b true)), (0, .c (.s b))]
theorem bs_wf (r : Mq) : ∀ e ∈ bsE r, wfs (· < (bsE r).length) e.cells := by
  intro e he
  simp only [bsE, List.mem_cons, List.not_mem_nil, or_false] at he
  rcases he with rfl | rfl | rfl
  · exact ec_wf _ _
  · exact st_wf _ _
  · exact mqR_wf (N := 0) (by show 0 < 3; decide) (by show 1 < 3; decide)
theorem slP_wf (b : List UInt8) (L : Int) (y : Nat) {r : Mq} : ∀ x ∈ slP b L y, x.2.wf (· < (bsE r).length) := by
  intro x hx
  simp only [slP, List.mem_cons, List.not_mem_nil, or_false] at hx
  rcases hx with rfl | rfl | rfl | rfl | rfl
  case inr.inr.inl => show 2 < 3; decide
  all_goals trivial
theorem parses_walk (l : List UInt8) (hl : l.length ≤ 9223372036854775807) (w : World) (hE0 : EnvT w) :
    Calls Tryz.prog 3 #[.string ⟨l.toArray⟩] w fun e w' => e = .returned (.bool true) ∧ Below w.heap.size w w' := by
  refine calls_of_Run Tryz.func3 rfl kp3 (S := Non) (ρ := fun _ => reOf 0) (en := []) [.c (.s l)] Tryz.ntmps3 (At.nil _ _ _) (by simp [SV.wf, SC.wf]) (by simp) ?_
  intro C hC hP hk
  have hE : ∀ w', Upd C.S C.w0 w' → EnvT w' := fun w' hu => by rw [hC] at hu; exact hE0.below hu.to_below
  have hEC : EnvC C := fun w' hu => (hE w' hu).env
  obtain ⟨b, hbl⟩ : ∃ b, (if 200000 < l.length then l.take 200000 else l) = b := ⟨_, rfl⟩
  have hbn : b.length ≤ 200000 := by rw [← hbl]; split <;> first | (rw [List.length_take]; omega) | omega
  obtain ⟨⟨r, L⟩, hx⟩ : ∃ x, mParse b = x := ⟨_, rfl⟩
  have hctr := paC_ok (r := r) hP hE
  have hn0 : C.n0 = 0 := by rw [hC]; rfl
  have fin : ∀ en, Fin C res3 (.c (.b true)) en := fun en => Fin_ro (v := .c (.b true)) hC hres3 rfl trivial
  (refine VT_ok hctr (rs := res3) true 10 _ _ _ ?_; simp (maxSteps := 1000000) only [VT, jf, jg, jZ, ja, jd, je, VC, qA, qB, qC, qD, qE, qF, qG, qH, qI, qJ, qK, qL, qM, qN, qO, qP, qQ, qR, qS, qT, qU, qV, qW, qX, qY, qZ, qe, qf, qg, qh, qj, qk, ql, qm, qn, qo, qp, qq, q0t, qu, qv, ev, qw, qy, qz, zA, zB, zC, zD, zE, zF, zG, zH, zI, zJ, TE.sv, zK, zL, zM, ↓reduceIte, reduceCtorEq, Value.oneCell', Nat.reduceEqDiff, Nat.reduceAdd, Nat.reduceLT, Nat.reduceBEq, Nat.reduceSub, Nat.reduceLeDiff, zP, zQ, zR, zS, zT, zU, zV, zW, zX, zY, zZ, za, zb, zc, zd, ze, zf, zg, zh, zi, zj, zk, zl, zm, zn, zo, zp, zq, zr, zt, zu, zw, zx, zy, zz, cE, jA, jB, hap, killE, deadOf, rwE, cD, cO, jC, jD, jE, jF, jG, jH, jI, jJ, jK, jL, jM, jN, jO, jP, jQ, jR, jS, jT, jU, jV, jW, jX, jY, hP, hk, res3, kp3, paC, rowSame, pmV, mqZ, mqS, cmE, flE, rwE])
  refine Run_join (κ := Unit) (fun _ => [(0, .c (.s b)), (3, .c (.b true))]) (fun _ => []) ?_ ?_
  rotate_left
  · intro htail
    by_cases h2 : 200000 < l.length
    · rw [if_pos h2] at hbl
      have g1 : decide (200000 < ((l.length : Nat) : Int)) = true := decide_eq_true (by omega)
      have g2 : (200000 : Int) ≤ ((l.length : Nat) : Int) := by omega
      have g3 : (0 : Int) ≤ 200000 := by decide
      (refine VT_ok hctr (rs := res3) true 12 _ _ _ ?_; simp (maxSteps := 1000000) only [VT, jf, jg, jZ, ja, jd, je, VC, qA, qB, qC, qD, qE, qF, qG, qH, qI, qJ, qK, qL, qM, qN, qO, qP, qQ, qR, qS, qT, qU, qV, qW, qX, qY, qZ, qe, qf, qg, qh, qj, qk, ql, qm, qn, qo, qp, qq, q0t, qu, qv, ev, qw, qy, qz, zA, zB, zC, zD, zE, zF, zG, zH, zI, zJ, TE.sv, zK, zL, zM, ↓reduceIte, reduceCtorEq, Value.oneCell', Nat.reduceEqDiff, Nat.reduceAdd, Nat.reduceLT, Nat.reduceBEq, Nat.reduceSub, Nat.reduceLeDiff, zP, zQ, zR, zS, zT, zU, zV, zW, zX, zY, zZ, za, zb, zc, zd, ze, zf, zg, zh, zi, zj, zk, zl, zm, zn, zo, zp, zq, zr, zt, zu, zw, zx, zy, zz, cE, jA, jB, hap, killE, deadOf, rwE, cD, cO, jC, jD, jE, jF, jG, jH, jI, jJ, jK, jL, jM, jN, jO, jP, jQ, jR, jS, jT, jU, jV, jW, jX, jY, hP, hk, res3, kp3, paC, rowSame, pmV, mqZ, mqS, cmE, flE, rwE, Int.le_refl, true_and, g1, g2, g3, List.drop_zero, Int.reduceToNat, hbl])
      exact htail () _ (sub_mk ⟨rfl, rfl, trivial⟩)
    · rw [if_neg h2] at hbl
      have g1 : decide (200000 < ((l.length : Nat) : Int)) = false := decide_eq_false (by omega)
      (refine VT_ok hctr (rs := res3) true 8 _ _ _ ?_; simp (maxSteps := 1000000) only [VT, jf, jg, jZ, ja, jd, je, VC, qA, qB, qC, qD, qE, qF, qG, qH, qI, qJ, qK, qL, qM, qN, qO, qP, qQ, qR, qS, qT, qU, qV, qW, qX, qY, qZ, qe, qf, qg, qh, qj, qk, ql, qm, qn, qo, qp, qq, q0t, qu, qv, ev, qw, qy, qz, zA, zB, zC, zD, zE, zF, zG, zH, zI, zJ, TE.sv, zK, zL, zM, ↓reduceIte, reduceCtorEq, Value.oneCell', Nat.reduceEqDiff, Nat.reduceAdd, Nat.reduceLT, Nat.reduceBEq, Nat.reduceSub, Nat.reduceLeDiff, zP, zQ, zR, zS, zT, zU, zV, zW, zX, zY, zZ, za, zb, zc, zd, ze, zf, zg, zh, zi, zj, zk, zl, zm, zn, zo, zp, zq, zr, zt, zu, zw, zx, zy, zz, cE, jA, jB, hap, killE, deadOf, rwE, cD, cO, jC, jD, jE, jF, jG, jH, jI, jJ, jK, jL, jM, jN, jO, jP, jQ, jR, jS, jT, jU, jV, jW, jX, jY, hP, hk, res3, kp3, paC, rowSame, pmV, mqZ, mqS, cmE, flE, rwE, g1])
      exact htail () _ (sub_mk ⟨by subst hbl; rfl, rfl, trivial⟩)
  intro _
  show Run C _ _ [(0, .c (.s b)), (3, .c (.b true))] []
  (refine VT_ok hctr (rs := res3) true 300 _ _ _ ?_; simp (maxSteps := 1000000) only [VT, jf, jg, jZ, ja, jd, je, VC, qA, qB, qC, qD, qE, qF, qG, qH, qI, qJ, qK, qL, qM, qN, qO, qP, qQ, qR, qS, qT, qU, qV, qW, qX, qY, qZ, qe, qf, qg, qh, qj, qk, ql, qm, qn, qo, qp, qq, q0t, qu, qv, ev, qw, qy, qz, zA, zB, zC, zD, zE, zF, zG, zH, zI, zJ, TE.sv, zK, zL, zM, ↓reduceIte, reduceCtorEq, Value.oneCell', Nat.reduceEqDiff, Nat.reduceAdd, Nat.reduceLT, Nat.reduceBEq, Nat.reduceSub, Nat.reduceLeDiff, zP, zQ, zR, zS, zT, zU, zV, zW, zX, zY, zZ, za, zb, zc, zd, ze, zf, zg, zh, zi, zj, zk, zl, zm, zn, zo, zp, zq, zr, zt, zu, zw, zx, zy, zz, cE, jA, jB, hap, killE, deadOf, rwE, cD, cO, jC, jD, jE, jF, jG, jH, jI, jJ, jK, jL, jM, jN, jO, jP, jQ, jR, jS, jT, jU, jV, jW, jX, jY, hP, hk, res3, kp3, paC, rowSame, pmV, mqZ, mqS, cmE, flE, rwE])
  refine Run_hcall rfl (pmV (r, L) 0) [cmE r, flE r] (dparse_h (C := C) (N := 0) b hx (by omega) hP hEC (fun q => by simp only [zG]; omega) (by rw [hn0]; exact Nat.zero_le _) rfl rfl (fun q h1 h2 => by match q with | 0 => exact absurd rfl h1 | 1 => exact absurd rfl h2 | _ + 2 => rfl)) (by simp [zG]) (by simp) ?_
  (refine VT_ok hctr (rs := res3) true 300 _ _ _ ?_; simp (maxSteps := 1000000) only [VT, jf, jg, jZ, ja, jd, je, VC, qA, qB, qC, qD, qE, qF, qG, qH, qI, qJ, qK, qL, qM, qN, qO, qP, qQ, qR, qS, qT, qU, qV, qW, qX, qY, qZ, qe, qf, qg, qh, qj, qk, ql, qm, qn, qo, qp, qq, q0t, qu, qv, ev, qw, qy, qz, zA, zB, zC, zD, zE, zF, zG, zH, zI, zJ, TE.sv, zK, zL, zM, ↓reduceIte, reduceCtorEq, Value.oneCell', Nat.reduceEqDiff, Nat.reduceAdd, Nat.reduceLT, Nat.reduceBEq, Nat.reduceSub, Nat.reduceLeDiff, zP, zQ, zR, zS, zT, zU, zV, zW, zX, zY, zZ, za, zb, zc, zd, ze, zf, zg, zh, zi, zj, zk, zl, zm, zn, zo, zp, zq, zr, zt, zu, zw, zx, zy, zz, cE, jA, jB, hap, killE, deadOf, rwE, cD, cO, jC, jD, jE, jF, jG, jH, jI, jJ, jK, jL, jM, jN, jO, jP, jQ, jR, jS, jT, jU, jV, jW, jX, jY, hP, hk, res3, kp3, paC, rowSame, pmV, mqZ, mqS, cmE, flE, rwE])
  refine Run_loopP (ι := { y : Nat // y ≤ 2 }) (fun y => slP b L y.1) (fun _ => bsE r) (fun y => 3 - y.1) ⟨0, Nat.zero_le _⟩ (sub_mk ⟨rfl, rfl, rfl, rfl, rfl, trivial⟩) rfl ?_
  rintro ⟨y, hy⟩ D dP dS dw dn dr dk ddf dPan dRet hX hJ
  have hE1 : ∀ w', Upd D.S D.w0 w' → EnvT w' := by rw [dS, dw]; exact hE
  have hP0 := hP; have hk0 := hk; have hctr0 := hctr
  have hP : D.P = Tryz.prog := by rw [dP]; exact hP0
  have hk : D.kp = kp3 := by rw [dk]; exact hk0
  have hctr : CtrOk D (paC r) := paC_ok hP hE1
  have hn0' : D.n0 = 0 := by rw [dn]; exact hn0
  show Run D _ _ (slP b L y) (bsE r)
  by_cases hy2 : y < 2
  · have q1 : decide ((y : Int) < 2) = true := decide_eq_true (by omega)
    have q2 : IntKind.i64.wrap ((y : Int) + 1) = ((y + 1 : Nat) : Int) := by rw [IntWalk.i64_in _ (by omega)]; rfl
    (refine VT_ok hctr (rs := res3) true 300 _ _ _ ?_; simp (maxSteps := 1000000) only [VT, jf, jg, jZ, ja, jd, je, VC, qA, qB, qC, qD, qE, qF, qG, qH, qI, qJ, qK, qL, qM, qN, qO, qP, qQ, qR, qS, qT, qU, qV, qW, qX, qY, qZ, qe, qf, qg, qh, qj, qk, ql, qm, qn, qo, qp, qq, q0t, qu, qv, ev, qw, qy, qz, zA, zB, zC, zD, zE, zF, zG, zH, zI, zJ, TE.sv, zK, zL, zM, ↓reduceIte, reduceCtorEq, Value.oneCell', Nat.reduceEqDiff, Nat.reduceAdd, Nat.reduceLT, Nat.reduceBEq, Nat.reduceSub, Nat.reduceLeDiff, zP, zQ, zR, zS, zT, zU, zV, zW, zX, zY, zZ, za, zb, zc, zd, ze, zf, zg, zh, zi, zj, zk, zl, zm, zn, zo, zp, zq, zr, zt, zu, zw, zx, zy, zz, cE, jA, jB, hap, killE, deadOf, rwE, cD, cO, jC, jD, jE, jF, jG, jH, jI, jJ, jK, jL, jM, jN, jO, jP, jQ, jR, jS, jT, jU, jV, jW, jX, jY, hP, hk, res3, kp3, paC, rowSame, pmV, mqZ, mqS, cmE, flE, rwE, q1, slP, bsE, rdE])
    refine Run_mparse b hx (by omega) hP hE1 (by rw [hn0']; exact Nat.zero_le _) rfl (by simp) ?_
    (refine VT_ok hctr (rs := res3) true 300 _ _ _ ?_; simp (maxSteps := 1000000) only [VT, jf, jg, jZ, ja, jd, je, VC, qA, qB, qC, qD, qE, qF, qG, qH, qI, qJ, qK, qL, qM, qN, qO, qP, qQ, qR, qS, qT, qU, qV, qW, qX, qY, qZ, qe, qf, qg, qh, qj, qk, ql, qm, qn, qo, qp, qq, q0t, qu, qv, ev, qw, qy, qz, zA, zB, zC, zD, zE, zF, zG, zH, zI, zJ, TE.sv, zK, zL, zM, ↓reduceIte, reduceCtorEq, Value.oneCell', Nat.reduceEqDiff, Nat.reduceAdd, Nat.reduceLT, Nat.reduceBEq, Nat.reduceSub, Nat.reduceLeDiff, zP, zQ, zR, zS, zT, zU, zV, zW, zX, zY, zZ, za, zb, zc, zd, ze, zf, zg, zh, zi, zj, zk, zl, zm, zn, zo, zp, zq, zr, zt, zu, zw, zx, zy, zz, cE, jA, jB, hap, killE, deadOf, rwE, cD, cO, jC, jD, jE, jF, jG, jH, jI, jJ, jK, jL, jM, jN, jO, jP, jQ, jR, jS, jT, jU, jV, jW, jX, jY, hP, hk, res3, kp3, paC, rowSame, pmV, mqZ, mqS, cmE, flE, rwE, q1, slP, bsE, rdE, bne_self_eq_false, Bool.not_true])
    refine ⟨⟨3, 0, rfl, rfl, rfl, rfl, rfl, rfl⟩, ?_⟩
    refine Run_join (κ := SC × List SC) (fun _ => slP4 b L y) (fun p => enP r (.rw 3 r.cmds.length) p.1 (flatG ecS r.cmds) p.2) ?_ ?_
    rotate_left
    · intro htail
      by_cases hF2 : r.flags = []
      · have hk20 : r.flags.length = 0 := by rw [hF2]; rfl
        refine Run_loopP (ι := Unit) (fun _ => slP2 b L y 0) (fun _ => enP r (.rw 3 r.cmds.length) (.rw 4 r.flags.length) (flatG ecS r.cmds) (r.flags.map SC.s)) (fun _ => 0) () (sub_mk ⟨rfl, rfl, rfl, rfl, rfl, rfl, rfl, trivial⟩) rfl ?_
        rintro _ E eP eS ew en er ek edf ePan eRet hX2 hJ2
        have hE2 : ∀ w', Upd E.S E.w0 w' → EnvT w' := by rw [eS, ew]; exact hE1
        have hP2 := hP; have hk2 := hk; have hctr2 := hctr
        have hP : E.P = Tryz.prog := by rw [eP]; exact hP2
        have hk : E.kp = kp3 := by rw [ek]; exact hk2
        have hctr : CtrOk E (paC r) := paC_ok hP hE2
        show Run E _ _ (slP2 b L y 0) (enP r (.rw 3 r.cmds.length) (.rw 4 r.flags.length) (flatG ecS r.cmds) (r.flags.map SC.s))
        have c0 : decide (((0 : Nat) : Int) < (r.flags.length : Int)) = false := by rw [hk20]; rfl
        (refine VT_ok hctr (rs := res3) true 300 _ _ _ ?_; simp (maxSteps := 1000000) only [VT, jf, jg, jZ, ja, jd, je, VC, qA, qB, qC, qD, qE, qF, qG, qH, qI, qJ, qK, qL, qM, qN, qO, qP, qQ, qR, qS, qT, qU, qV, qW, qX, qY, qZ, qe, qf, qg, qh, qj, qk, ql, qm, qn, qo, qp, qq, q0t, qu, qv, ev, qw, qy, qz, zA, zB, zC, zD, zE, zF, zG, zH, zI, zJ, TE.sv, zK, zL, zM, ↓reduceIte, reduceCtorEq, Value.oneCell', Nat.reduceEqDiff, Nat.reduceAdd, Nat.reduceLT, Nat.reduceBEq, Nat.reduceSub, Nat.reduceLeDiff, zP, zQ, zR, zS, zT, zU, zV, zW, zX, zY, zZ, za, zb, zc, zd, ze, zf, zg, zh, zi, zj, zk, zl, zm, zn, zo, zp, zq, zr, zt, zu, zw, zx, zy, zz, cE, jA, jB, hap, killE, deadOf, rwE, cD, cO, jC, jD, jE, jF, jG, jH, jI, jJ, jK, jL, jM, jN, jO, jP, jQ, jR, jS, jT, jU, jV, jW, jX, jY, hP, hk, res3, kp3, paC, rowSame, pmV, mqZ, mqS, cmE, flE, rwE, c0, slP2, slP3, enP, rdE])
        refine hX2 rfl rfl ?_
        exact htail (.rw 4 r.flags.length, (r.flags.map SC.s)) _ (sub_mk ⟨rfl, rfl, rfl, rfl, rfl, rfl, trivial⟩)
      · have hk20 : r.flags.length ≠ 0 := fun h => hF2 (List.eq_nil_of_length_eq_zero h)
        refine Run_alias (M := { m : Nat // r.flags.length ≤ m ∧ m ≤ maxLen }) (Φ := fun m ρ => (SC.sl 4 0 r.flags.length m.1).den ρ = (SC.rw 4 r.flags.length).den ρ) (en' := fun m => enP r (.rw 3 r.cmds.length) (.sl 4 0 r.flags.length m.1) (flatG ecS r.cmds) (r.flags.map SC.s)) (sl' := fun m => slP2 b L y 0) (fun ρ w hw => row_sl (N := 4) (n := r.flags.length) hw rfl hk20) (fun m => ?_) (fun m => ?_) ?_
        · exact ali_rq2
        · exact ⟨⟨_, rfl, fun _ _ => rfl, id⟩, ⟨_, rfl, fun _ _ => rfl, id⟩, ⟨_, rfl, fun _ _ => rfl, id⟩, ⟨_, rfl, fun _ _ => rfl, id⟩, ⟨_, rfl, fun _ _ => rfl, id⟩, ⟨_, rfl, fun _ _ => rfl, id⟩, ⟨_, rfl, fun _ _ => rfl, id⟩, trivial⟩
        rintro ⟨m, hm1, hm2⟩
        unfold maxLen at hm2
        refine Run_loopP (ι := { z : Nat × List (List UInt8) // z.1 ≤ r.flags.length ∧ z.2.length = r.flags.length }) (fun z => slP2 b L y z.1.1) (fun z => enP r (.rw 3 r.cmds.length) (.sl 4 0 r.flags.length m) (flatG ecS r.cmds) (z.1.2.map SC.s)) (fun z => r.flags.length - z.1.1) ⟨(0, r.flags), Nat.zero_le _, rfl⟩ (sub_mk ⟨rfl, rfl, rfl, rfl, rfl, rfl, rfl, trivial⟩) rfl ?_
        rintro ⟨⟨j, Z⟩, hj, hZ⟩ E eP eS ew en er ek edf ePan eRet hX2 hJ2
        have hE2 : ∀ w', Upd E.S E.w0 w' → EnvT w' := by rw [eS, ew]; exact hE1
        have hP2 := hP; have hk2 := hk; have hctr2 := hctr
        have hP : E.P = Tryz.prog := by rw [eP]; exact hP2
        have hk : E.kp = kp3 := by rw [ek]; exact hk2
        have hctr : CtrOk E (paC r) := paC_ok hP hE2
        simp only at hj hZ
        show Run E _ _ (slP2 b L y j) (enP r (.rw 3 r.cmds.length) (.sl 4 0 r.flags.length m) (flatG ecS r.cmds) (Z.map SC.s))
        obtain ⟨n, hn⟩ : ∃ n, r.flags.length = n := ⟨_, rfl⟩
        by_cases hjn : j < n
        · have c0 : decide ((j : Int) < (n : Int)) = true := decide_eq_true (by omega)
          have c1 : (0 : Int) ≤ (j : Int) := by omega
          have c2 : (j : Int) < (n : Int) := by omega
          have c3 : zC j [SC.s [63]] (Z.map SC.s) = some ((Z.set j [63]).map SC.s) := st_lay (by omega) _
          have c4 : IntKind.i64.wrap ((j : Int) + 1) = ((j + 1 : Nat) : Int) := by rw [IntWalk.i64_in _ (by omega)]; rfl
          (refine VT_ok hctr (rs := res3) true 300 _ _ _ ?_; simp (maxSteps := 1000000) only [VT, jf, jg, jZ, ja, jd, je, VC, qA, qB, qC, qD, qE, qF, qG, qH, qI, qJ, qK, qL, qM, qN, qO, qP, qQ, qR, qS, qT, qU, qV, qW, qX, qY, qZ, qe, qf, qg, qh, qj, qk, ql, qm, qn, qo, qp, qq, q0t, qu, qv, ev, qw, qy, qz, zA, zB, zC, zD, zE, zF, zG, zH, zI, zJ, TE.sv, zK, zL, zM, ↓reduceIte, reduceCtorEq, Value.oneCell', Nat.reduceEqDiff, Nat.reduceAdd, Nat.reduceLT, Nat.reduceBEq, Nat.reduceSub, Nat.reduceLeDiff, zP, zQ, zR, zS, zT, zU, zV, zW, zX, zY, zZ, za, zb, zc, zd, ze, zf, zg, zh, zi, zj, zk, zl, zm, zn, zo, zp, zq, zr, zt, zu, zw, zx, zy, zz, cE, jA, jB, hap, killE, deadOf, rwE, cD, cO, jC, jD, jE, jF, jG, jH, jI, jJ, jK, jL, jM, jN, jO, jP, jQ, jR, jS, jT, jU, jV, jW, jX, jY, hP, hk, res3, kp3, paC, rowSame, pmV, mqZ, mqS, cmE, flE, rwE, c0, c1, c2, c3, c4, hn, slP2, slP3, enP, rdE, Int.toNat_natCast, Nat.mul_one, Nat.zero_add])
          subst hn
          exact hJ2 ⟨(j + 1, Z.set j [63]), by simp only; omega, by simp only [List.length_set]; omega⟩ _ (by simp only; omega) (sub_mk ⟨rfl, rfl, rfl, rfl, rfl, rfl, rfl, trivial⟩)
        · have c0 : decide ((j : Int) < (n : Int)) = false := decide_eq_false (by omega)
          (refine VT_ok hctr (rs := res3) true 300 _ _ _ ?_; simp (maxSteps := 1000000) only [VT, jf, jg, jZ, ja, jd, je, VC, qA, qB, qC, qD, qE, qF, qG, qH, qI, qJ, qK, qL, qM, qN, qO, qP, qQ, qR, qS, qT, qU, qV, qW, qX, qY, qZ, qe, qf, qg, qh, qj, qk, ql, qm, qn, qo, qp, qq, q0t, qu, qv, ev, qw, qy, qz, zA, zB, zC, zD, zE, zF, zG, zH, zI, zJ, TE.sv, zK, zL, zM, ↓reduceIte, reduceCtorEq, Value.oneCell', Nat.reduceEqDiff, Nat.reduceAdd, Nat.reduceLT, Nat.reduceBEq, Nat.reduceSub, Nat.reduceLeDiff, zP, zQ, zR, zS, zT, zU, zV, zW, zX, zY, zZ, za, zb, zc, zd, ze, zf, zg, zh, zi, zj, zk, zl, zm, zn, zo, zp, zq, zr, zt, zu, zw, zx, zy, zz, cE, jA, jB, hap, killE, deadOf, rwE, cD, cO, jC, jD, jE, jF, jG, jH, jI, jJ, jK, jL, jM, jN, jO, jP, jQ, jR, jS, jT, jU, jV, jW, jX, jY, hP, hk, res3, kp3, paC, rowSame, pmV, mqZ, mqS, cmE, flE, rwE, c0, hn, slP2, slP3, enP, rdE])
          subst hn
          refine hX2 rfl rfl ?_
          exact htail ((.sl 4 0 r.flags.length m), (Z.map SC.s)) _ (sub_mk ⟨rfl, rfl, rfl, rfl, rfl, rfl, trivial⟩)
    rintro ⟨fl, cf⟩
    show Run D _ _ (slP4 b L y) (enP r (.rw 3 r.cmds.length) fl (flatG ecS r.cmds) cf)
    (refine VT_ok hctr (rs := res3) true 300 _ _ _ ?_; simp (maxSteps := 1000000) only [VT, jf, jg, jZ, ja, jd, je, VC, qA, qB, qC, qD, qE, qF, qG, qH, qI, qJ, qK, qL, qM, qN, qO, qP, qQ, qR, qS, qT, qU, qV, qW, qX, qY, qZ, qe, qf, qg, qh, qj, qk, ql, qm, qn, qo, qp, qq, q0t, qu, qv, ev, qw, qy, qz, zA, zB, zC, zD, zE, zF, zG, zH, zI, zJ, TE.sv, zK, zL, zM, ↓reduceIte, reduceCtorEq, Value.oneCell', Nat.reduceEqDiff, Nat.reduceAdd, Nat.reduceLT, Nat.reduceBEq, Nat.reduceSub, Nat.reduceLeDiff, zP, zQ, zR, zS, zT, zU, zV, zW, zX, zY, zZ, za, zb, zc, zd, ze, zf, zg, zh, zi, zj, zk, zl, zm, zn, zo, zp, zq, zr, zt, zu, zw, zx, zy, zz, cE, jA, jB, hap, killE, deadOf, rwE, cD, cO, jC, jD, jE, jF, jG, jH, jI, jJ, jK, jL, jM, jN, jO, jP, jQ, jR, jS, jT, jU, jV, jW, jX, jY, hP, hk, res3, kp3, paC, rowSame, pmV, mqZ, mqS, cmE, flE, rwE, slP4, enP, rdE])
    by_cases hF3 : r.cmds = []
    · have hk30 : r.cmds.length = 0 := by rw [hF3]; rfl
      refine Run_loopP (ι := Unit) (fun _ => slP3 b L y 0) (fun _ => enP r (.rw 3 r.cmds.length) fl (flatG ecS r.cmds) cf) (fun _ => 0) () (sub_mk ⟨rfl, rfl, rfl, rfl, rfl, rfl, rfl, trivial⟩) rfl ?_
      rintro _ E eP eS ew en er ek edf ePan eRet hX2 hJ2
      have hE2 : ∀ w', Upd E.S E.w0 w' → EnvT w' := by rw [eS, ew]; exact hE1
      have hP2 := hP; have hk2 := hk; have hctr2 := hctr
      have hP : E.P = Tryz.prog := by rw [eP]; exact hP2
      have hk : E.kp = kp3 := by rw [ek]; exact hk2
      have hctr : CtrOk E (paC r) := paC_ok hP hE2
      show Run E _ _ (slP3 b L y 0) (enP r (.rw 3 r.cmds.length) fl (flatG ecS r.cmds) cf)
      have c0 : decide (((0 : Nat) : Int) < (r.cmds.length : Int)) = false := by rw [hk30]; rfl
      (refine VT_ok hctr (rs := res3) true 300 _ _ _ ?_; simp (maxSteps := 1000000) only [VT, jf, jg, jZ, ja, jd, je, VC, qA, qB, qC, qD, qE, qF, qG, qH, qI, qJ, qK, qL, qM, qN, qO, qP, qQ, qR, qS, qT, qU, qV, qW, qX, qY, qZ, qe, qf, qg, qh, qj, qk, ql, qm, qn, qo, qp, qq, q0t, qu, qv, ev, qw, qy, qz, zA, zB, zC, zD, zE, zF, zG, zH, zI, zJ, TE.sv, zK, zL, zM, ↓reduceIte, reduceCtorEq, Value.oneCell', Nat.reduceEqDiff, Nat.reduceAdd, Nat.reduceLT, Nat.reduceBEq, Nat.reduceSub, Nat.reduceLeDiff, zP, zQ, zR, zS, zT, zU, zV, zW, zX, zY, zZ, za, zb, zc, zd, ze, zf, zg, zh, zi, zj, zk, zl, zm, zn, zo, zp, zq, zr, zt, zu, zw, zx, zy, zz, cE, jA, jB, hap, killE, deadOf, rwE, cD, cO, jC, jD, jE, jF, jG, jH, jI, jJ, jK, jL, jM, jN, jO, jP, jQ, jR, jS, jT, jU, jV, jW, jX, jY, hP, hk, res3, kp3, paC, rowSame, pmV, mqZ, mqS, cmE, flE, rwE, c0, slP2, slP3, enP, rdE])
      refine hX2 rfl rfl ?_
      have hP := hP2; have hk := hk2; have hctr := hctr2
      (refine VT_ok hctr (rs := res3) true 300 _ _ _ ?_; simp (maxSteps := 1000000) only [VT, jf, jg, jZ, ja, jd, je, VC, qA, qB, qC, qD, qE, qF, qG, qH, qI, qJ, qK, qL, qM, qN, qO, qP, qQ, qR, qS, qT, qU, qV, qW, qX, qY, qZ, qe, qf, qg, qh, qj, qk, ql, qm, qn, qo, qp, qq, q0t, qu, qv, ev, qw, qy, qz, zA, zB, zC, zD, zE, zF, zG, zH, zI, zJ, TE.sv, zK, zL, zM, ↓reduceIte, reduceCtorEq, Value.oneCell', Nat.reduceEqDiff, Nat.reduceAdd, Nat.reduceLT, Nat.reduceBEq, Nat.reduceSub, Nat.reduceLeDiff, zP, zQ, zR, zS, zT, zU, zV, zW, zX, zY, zZ, za, zb, zc, zd, ze, zf, zg, zh, zi, zj, zk, zl, zm, zn, zo, zp, zq, zr, zt, zu, zw, zx, zy, zz, cE, jA, jB, hap, killE, deadOf, rwE, cD, cO, jC, jD, jE, jF, jG, jH, jI, jJ, jK, jL, jM, jN, jO, jP, jQ, jR, jS, jT, jU, jV, jW, jX, jY, hP, hk, res3, kp3, paC, rowSame, pmV, mqZ, mqS, cmE, flE, rwE, q2, slP2, slP3, enP, rdE])
      refine Run_forget (sl' := slP b L (y + 1)) (bsE r) [⟨tyC r, (flatG ecS r.cmds), true⟩, ⟨tyF r, cf, true⟩, rdE (.rw 3 r.cmds.length) fl r] rfl (by rw [hn0']; exact Nat.zero_le _) (bs_wf r) (sub_mk ⟨rfl, rfl, rfl, rfl, rfl, trivial⟩) (slP_wf b L _) ?_
      exact hJ ⟨y + 1, by omega⟩ _ (by simp only; omega) (sub_mk ⟨rfl, rfl, rfl, rfl, rfl, trivial⟩)
    · have hk30 : r.cmds.length ≠ 0 := fun h => hF3 (List.eq_nil_of_length_eq_zero h)
      refine Run_alias (M := { m : Nat // r.cmds.length ≤ m ∧ m ≤ maxLen }) (Φ := fun m ρ => (SC.sl 3 0 r.cmds.length m.1).den ρ = (SC.rw 3 r.cmds.length).den ρ) (en' := fun m => enP r (.sl 3 0 r.cmds.length m.1) fl (flatG ecS r.cmds) cf) (sl' := fun m => slP3 b L y 0) (fun ρ w hw => row_sl (N := 3) (n := r.cmds.length) hw rfl hk30) (fun m => ?_) (fun m => ?_) ?_
      · exact ali_rq3
      · exact ⟨⟨_, rfl, fun _ _ => rfl, id⟩, ⟨_, rfl, fun _ _ => rfl, id⟩, ⟨_, rfl, fun _ _ => rfl, id⟩, ⟨_, rfl, fun _ _ => rfl, id⟩, ⟨_, rfl, fun _ _ => rfl, id⟩, ⟨_, rfl, fun _ _ => rfl, id⟩, ⟨_, rfl, fun _ _ => rfl, id⟩, trivial⟩
      rintro ⟨m, hm1, hm2⟩
      unfold maxLen at hm2
      refine Run_loopP (ι := { z : Nat × List Cd // z.1 ≤ r.cmds.length ∧ z.2.length = r.cmds.length }) (fun z => slP3 b L y z.1.1) (fun z => enP r (.sl 3 0 r.cmds.length m) fl (flatG ecS z.1.2) cf) (fun z => r.cmds.length - z.1.1) ⟨(0, r.cmds), Nat.zero_le _, rfl⟩ (sub_mk ⟨rfl, rfl, rfl, rfl, rfl, rfl, rfl, trivial⟩) rfl ?_
      rintro ⟨⟨j, Z⟩, hj, hZ⟩ E eP eS ew en er ek edf ePan eRet hX2 hJ2
      have hE2 : ∀ w', Upd E.S E.w0 w' → EnvT w' := by rw [eS, ew]; exact hE1
      have hP2 := hP; have hk2 := hk; have hctr2 := hctr
      have hP : E.P = Tryz.prog := by rw [eP]; exact hP2
      have hk : E.kp = kp3 := by rw [ek]; exact hk2
      have hctr : CtrOk E (paC r) := paC_ok hP hE2
      simp only at hj hZ
      show Run E _ _ (slP3 b L y j) (enP r (.sl 3 0 r.cmds.length m) fl (flatG ecS Z) cf)
      obtain ⟨n, hn⟩ : ∃ n, r.cmds.length = n := ⟨_, rfl⟩
      by_cases hjn : j < n
      · have c0 : decide ((j : Int) < (n : Int)) = true := decide_eq_true (by omega)
        have c1 : (0 : Int) ≤ (j : Int) := by omega
        have c2 : (j : Int) < (n : Int) := by omega
        have c3 : zC (j * 16) [SC.i IntKind.i64 0, SC.i IntKind.i64 0, SC.s [], SC.s [], SC.i IntKind.u32 0, SC.i IntKind.i64 0, SC.b false, SC.i IntKind.u64 0, SC.b false, SC.i IntKind.u64 0, SC.i IntKind.u64 0, SC.b false, SC.b false, SC.i IntKind.i64 0, SC.i IntKind.i64 0, SC.b false] (flatG ecS Z) = some (flatG ecS (Z.set j Cd.zero)) := flatG_lay (f := ecS) (y := Cd.zero) (z := 16) (fun _ => rfl) (xs := Z) (i := j) (List.getElem?_eq_getElem (show j < Z.length by omega))
        have c4 : IntKind.i64.wrap ((j : Int) + 1) = ((j + 1 : Nat) : Int) := by rw [IntWalk.i64_in _ (by omega)]; rfl
        (refine VT_ok hctr (rs := res3) true 300 _ _ _ ?_; simp (maxSteps := 1000000) only [VT, jf, jg, jZ, ja, jd, je, VC, qA, qB, qC, qD, qE, qF, qG, qH, qI, qJ, qK, qL, qM, qN, qO, qP, qQ, qR, qS, qT, qU, qV, qW, qX, qY, qZ, qe, qf, qg, qh, qj, qk, ql, qm, qn, qo, qp, qq, q0t, qu, qv, ev, qw, qy, qz, zA, zB, zC, zD, zE, zF, zG, zH, zI, zJ, TE.sv, zK, zL, zM, ↓reduceIte, reduceCtorEq, Value.oneCell', Nat.reduceEqDiff, Nat.reduceAdd, Nat.reduceLT, Nat.reduceBEq, Nat.reduceSub, Nat.reduceLeDiff, zP, zQ, zR, zS, zT, zU, zV, zW, zX, zY, zZ, za, zb, zc, zd, ze, zf, zg, zh, zi, zj, zk, zl, zm, zn, zo, zp, zq, zr, zt, zu, zw, zx, zy, zz, cE, jA, jB, hap, killE, deadOf, rwE, cD, cO, jC, jD, jE, jF, jG, jH, jI, jJ, jK, jL, jM, jN, jO, jP, jQ, jR, jS, jT, jU, jV, jW, jX, jY, hP, hk, res3, kp3, paC, rowSame, pmV, mqZ, mqS, cmE, flE, rwE, c0, c1, c2, c3, c4, hn, slP2, slP3, enP, rdE, Int.toNat_natCast, Nat.mul_one, Nat.zero_add])
        subst hn
        exact hJ2 ⟨(j + 1, Z.set j Cd.zero), by simp only; omega, by simp only [List.length_set]; omega⟩ _ (by simp only; omega) (sub_mk ⟨rfl, rfl, rfl, rfl, rfl, rfl, rfl, trivial⟩)
      · have c0 : decide ((j : Int) < (n : Int)) = false := decide_eq_false (by omega)
        (refine VT_ok hctr (rs := res3) true 300 _ _ _ ?_; simp (maxSteps := 1000000) only [VT, jf, jg, jZ, ja, jd, je, VC, qA, qB, qC, qD, qE, qF, qG, qH, qI, qJ, qK, qL, qM, qN, qO, qP, qQ, qR, qS, qT, qU, qV, qW, qX, qY, qZ, qe, qf, qg, qh, qj, qk, ql, qm, qn, qo, qp, qq, q0t, qu, qv, ev, qw, qy, qz, zA, zB, zC, zD, zE, zF, zG, zH, zI, zJ, TE.sv, zK, zL, zM, ↓reduceIte, reduceCtorEq, Value.oneCell', Nat.reduceEqDiff, Nat.reduceAdd, Nat.reduceLT, Nat.reduceBEq, Nat.reduceSub, Nat.reduceLeDiff, zP, zQ, zR, zS, zT, zU, zV, zW, zX, zY, zZ, za, zb, zc, zd, ze, zf, zg, zh, zi, zj, zk, zl, zm, zn, zo, zp, zq, zr, zt, zu, zw, zx, zy, zz, cE, jA, jB, hap, killE, deadOf, rwE, cD, cO, jC, jD, jE, jF, jG, jH, jI, jJ, jK, jL, jM, jN, jO, jP, jQ, jR, jS, jT, jU, jV, jW, jX, jY, hP, hk, res3, kp3, paC, rowSame, pmV, mqZ, mqS, cmE, flE, rwE, c0, hn, slP2, slP3, enP, rdE])
        subst hn
        refine hX2 rfl rfl ?_
        have hP := hP2; have hk := hk2; have hctr := hctr2
        (refine VT_ok hctr (rs := res3) true 300 _ _ _ ?_; simp (maxSteps := 1000000) only [VT, jf, jg, jZ, ja, jd, je, VC, qA, qB, qC, qD, qE, qF, qG, qH, qI, qJ, qK, qL, qM, qN, qO, qP, qQ, qR, qS, qT, qU, qV, qW, qX, qY, qZ, qe, qf, qg, qh, qj, qk, ql, qm, qn, qo, qp, qq, q0t, qu, qv, ev, qw, qy, qz, zA, zB, zC, zD, zE, zF, zG, zH, zI, zJ, TE.sv, zK, zL, zM, ↓reduceIte, reduceCtorEq, Value.oneCell', Nat.reduceEqDiff, Nat.reduceAdd, Nat.reduceLT, Nat.reduceBEq, Nat.reduceSub, Nat.reduceLeDiff, zP, zQ, zR, zS, zT, zU, zV, zW, zX, zY, zZ, za, zb, zc, zd, ze, zf, zg, zh, zi, zj, zk, zl, zm, zn, zo, zp, zq, zr, zt, zu, zw, zx, zy, zz, cE, jA, jB, hap, killE, deadOf, rwE, cD, cO, jC, jD, jE, jF, jG, jH, jI, jJ, jK, jL, jM, jN, jO, jP, jQ, jR, jS, jT, jU, jV, jW, jX, jY, hP, hk, res3, kp3, paC, rowSame, pmV, mqZ, mqS, cmE, flE, rwE, q2, slP2, slP3, enP, rdE])
        refine Run_forget (sl' := slP b L (y + 1)) (bsE r) [⟨tyC r, (flatG ecS Z), true⟩, ⟨tyF r, cf, true⟩, rdE (.sl 3 0 r.cmds.length m) fl r] rfl (by rw [hn0']; exact Nat.zero_le _) (bs_wf r) (sub_mk ⟨rfl, rfl, rfl, rfl, rfl, trivial⟩) (slP_wf b L _) ?_
        exact hJ ⟨y + 1, by omega⟩ _ (by simp only; omega) (sub_mk ⟨rfl, rfl, rfl, rfl, rfl, trivial⟩)
  · have q1 : decide ((y : Int) < 2) = false := decide_eq_false (by omega)
    (refine VT_ok hctr (rs := res3) true 300 _ _ _ ?_; simp (maxSteps := 1000000) only [VT, jf, jg, jZ, ja, jd, je, VC, qA, qB, qC, qD, qE, qF, qG, qH, qI, qJ, qK, qL, qM, qN, qO, qP, qQ, qR, qS, qT, qU, qV, qW, qX, qY, qZ, qe, qf, qg, qh, qj, qk, ql, qm, qn, qo, qp, qq, q0t, qu, qv, ev, qw, qy, qz, zA, zB, zC, zD, zE, zF, zG, zH, zI, zJ, TE.sv, zK, zL, zM, ↓reduceIte, reduceCtorEq, Value.oneCell', Nat.reduceEqDiff, Nat.reduceAdd, Nat.reduceLT, Nat.reduceBEq, Nat.reduceSub, Nat.reduceLeDiff, zP, zQ, zR, zS, zT, zU, zV, zW, zX, zY, zZ, za, zb, zc, zd, ze, zf, zg, zh, zi, zj, zk, zl, zm, zn, zo, zp, zq, zr, zt, zu, zw, zx, zy, zz, cE, jA, jB, hap, killE, deadOf, rwE, cD, cO, jC, jD, jE, jF, jG, jH, jI, jJ, jK, jL, jM, jN, jO, jP, jQ, jR, jS, jT, jU, jV, jW, jX, jY, hP, hk, res3, kp3, paC, rowSame, pmV, mqZ, mqS, cmE, flE, rwE, q1, slP, bsE, rdE])
    refine hX rfl rfl ?_
    have hP := hP0; have hk := hk0; have hctr := hctr0
    (refine VT_ok hctr (rs := res3) true 300 _ _ _ ?_; simp (maxSteps := 1000000) only [VT, jf, jg, jZ, ja, jd, je, VC, qA, qB, qC, qD, qE, qF, qG, qH, qI, qJ, qK, qL, qM, qN, qO, qP, qQ, qR, qS, qT, qU, qV, qW, qX, qY, qZ, qe, qf, qg, qh, qj, qk, ql, qm, qn, qo, qp, qq, q0t, qu, qv, ev, qw, qy, qz, zA, zB, zC, zD, zE, zF, zG, zH, zI, zJ, TE.sv, zK, zL, zM, ↓reduceIte, reduceCtorEq, Value.oneCell', Nat.reduceEqDiff, Nat.reduceAdd, Nat.reduceLT, Nat.reduceBEq, Nat.reduceSub, Nat.reduceLeDiff, zP, zQ, zR, zS, zT, zU, zV, zW, zX, zY, zZ, za, zb, zc, zd, ze, zf, zg, zh, zi, zj, zk, zl, zm, zn, zo, zp, zq, zr, zt, zu, zw, zx, zy, zz, cE, jA, jB, hap, killE, deadOf, rwE, cD, cO, jC, jD, jE, jF, jG, jH, jI, jJ, jK, jL, jM, jN, jO, jP, jQ, jR, jS, jT, jU, jV, jW, jX, jY, hP, hk, res3, kp3, paC, rowSame, pmV, mqZ, mqS, cmE, flE, rwE, q1, slP, bsE, rdE])
    exact fin _
end Go.Proofs.YtlaagebdbcmckaaGreatDoor
