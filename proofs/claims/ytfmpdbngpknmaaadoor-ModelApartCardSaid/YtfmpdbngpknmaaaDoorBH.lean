/- flush, by the symbolic walk. -/
import Derived.Test.YtfmpdbngpknmaaaDoorBG
import Derived.Test.YtfmpdbngpknmaaaDoorBE
namespace Go.Proofs.YtfmpdbngpknmaaaDoor
set_option linter.unusedSimpArgs false
set_option linter.unusedVariables false
set_option linter.unusedSimpArgs false
set_option linter.unusedVariables false
set_option maxHeartbeats 8000000
open Go.RowKit

set_option maxRecDepth 100000
theorem flush_op (base g : Nat) (v : Value) (X : St) (now : Int) (c : Cd) (most : Int) (i : Nat) (is : Bool) (w : World) (h : WS base w g v X now c most i is) (hbase : base ≤ w.heap.size) (his : is = true → i < X.items.length)
    (hn0 : 1 ≤ now) (hn1 : now ≤ 1099511627776) :
    Calls Tryd.prog 27 #[.pointer (some ⟨g, 0, none⟩)] w (OpR base g v (flushF X now c).1 now c most i is (flushF X now c).2 w) := by
  refine op_run Tryd.func27 rfl kp27 Tryd.ntmps27 (by decide) h hbase his ?_
  intro vS tl hsh ρ hρ n hn hn' C hC hG hP hk
  have hctr := mC1_ok hP
  have hf0 : momF now c.exp ≤ now → flushF X now c = ({ X with items := [], flush := 0 }, toldF 10) := fun hv => by simp [flushF, hv]
  have hf1 : ¬ momF now c.exp ≤ now → flushF X now c = ({ X with flush := momF now c.exp }, toldF 10) := fun hv => by simp [flushF, hv]
  rcases hsh with ⟨rfl, ⟨rfl, rfl⟩ | ⟨rfl, x, hx, rfl⟩⟩
  · (refine VC_ok hctr (rs := res27) 300 _ _ _ ?_; simp (maxSteps := 1000000) only [VC, qA, qB, qC, qD, qE, qF, qG, qH, qI, qJ, qK, qL, qM, qN, qO, qP, qQ, qR, qS, qT, qU, qV, qW, qX, qY, qZ, qe, qf, qg, qh, qj, qk, ql, qm, qn, qo, qp, qq, qt, qu, qv, ev, qw, qy, qz, zA, zB, zC, zD, zE, zF, zG, zH, zI, zJ, TE.sv, zK, zL, zM, ↓reduceIte, reduceCtorEq, Value.oneCell', Nat.reduceEqDiff, Nat.reduceAdd, Nat.reduceLT, Nat.reduceBEq, Nat.reduceSub, Nat.reduceLeDiff, zP, zQ, zR, zS, zT, zU, zV, zW, zX, zY, zZ, za, zb, zc, zd, ze, zf, zg, zh, zi, zj, zk, zl, zm, zn, zo, zp, zq, zr, zt, zu, zw, zx, zy, zz, cE, jA, jB, cD, cO, jC, jD, jE, jF, jG, jH, jI, jJ, jK, jL, jM, jN, jO, jP, jQ, jR, jS, jT, jU, jV, jW, jX, jY, hP, hk, res27, kp27, woE, woS, rowE, mC1, mC0, rowTold, rowMoment, toldF, It.zero, anS, hn0, hn1])
    (refine Run_drawD hctr (by rw [hP]; rfl) rs27_2 [] (ensure_type_of% (Cmp.of (by simp (maxSteps := 1000000) only [VC, qA, qB, qC, qD, qE, qF, qG, qH, qI, qJ, qK, qL, qM, qN, qO, qP, qQ, qR, qS, qT, qU, qV, qW, qX, qY, qZ, qe, qf, qg, qh, qj, qk, ql, qm, qn, qo, qp, qq, qt, qu, qv, ev, qw, qy, qz, zA, zB, zC, zD, zE, zF, zG, zH, zI, zJ, TE.sv, zK, zL, zM, ↓reduceIte, reduceCtorEq, Value.oneCell', Nat.reduceEqDiff, Nat.reduceAdd, Nat.reduceLT, Nat.reduceBEq, Nat.reduceSub, Nat.reduceLeDiff, zP, zQ, zR, zS, zT, zU, zV, zW, zX, zY, zZ, za, zb, zc, zd, ze, zf, zg, zh, zi, zj, zk, zl, zm, zn, zo, zp, zq, zr, zt, zu, zw, zx, zy, zz, cE, jA, jB, cD, cO, jC, jD, jE, jF, jG, jH, jI, jJ, jK, jL, jM, jN, jO, jP, jQ, jR, jS, jT, jU, jV, jW, jX, jY, hP, woE, woS, rowE, mC1, mC0, rowTold, rowMoment, toldF, It.zero, anS, hn0, hn1]; rfl)) "" Cmp.mk) (by kernel_rfl) (by kernel_rfl) (by first | exact lenB_one _ | kernel_rfl) (by kernel_rfl) (by rfl) (by rfl) (by first | exact firstN_self _ | rfl) (by rfl) (by simp (maxSteps := 1000000) only [VC, qA, qB, qC, qD, qE, qF, qG, qH, qI, qJ, qK, qL, qM, qN, qO, qP, qQ, qR, qS, qT, qU, qV, qW, qX, qY, qZ, qe, qf, qg, qh, qj, qk, ql, qm, qn, qo, qp, qq, qt, qu, qv, ev, qw, qy, qz, zA, zB, zC, zD, zE, zF, zG, zH, zI, zJ, TE.sv, zK, zL, zM, ↓reduceIte, reduceCtorEq, Value.oneCell', Nat.reduceEqDiff, Nat.reduceAdd, Nat.reduceLT, Nat.reduceBEq, Nat.reduceSub, Nat.reduceLeDiff, zP, zQ, zR, zS, zT, zU, zV, zW, zX, zY, zZ, za, zb, zc, zd, ze, zf, zg, zh, zi, zj, zk, zl, zm, zn, zo, zp, zq, zr, zt, zu, zw, zx, zy, zz, cE, jA, jB, cD, cO, jC, jD, jE, jF, jG, jH, jI, jJ, jK, jL, jM, jN, jO, jP, jQ, jR, jS, jT, jU, jV, jW, jX, jY, hP, woE, woS, rowE, mC1, mC0, rowTold, rowMoment, toldF, It.zero, anS, hn0, hn1]) ?_; refine VC_ok hctr (rs := res27) 300 _ _ _ ?_; simp (maxSteps := 1000000) only [VC, qA, qB, qC, qD, qE, qF, qG, qH, qI, qJ, qK, qL, qM, qN, qO, qP, qQ, qR, qS, qT, qU, qV, qW, qX, qY, qZ, qe, qf, qg, qh, qj, qk, ql, qm, qn, qo, qp, qq, qt, qu, qv, ev, qw, qy, qz, zA, zB, zC, zD, zE, zF, zG, zH, zI, zJ, TE.sv, zK, zL, zM, ↓reduceIte, reduceCtorEq, Value.oneCell', Nat.reduceEqDiff, Nat.reduceAdd, Nat.reduceLT, Nat.reduceBEq, Nat.reduceSub, Nat.reduceLeDiff, zP, zQ, zR, zS, zT, zU, zV, zW, zX, zY, zZ, za, zb, zc, zd, ze, zf, zg, zh, zi, zj, zk, zl, zm, zn, zo, zp, zq, zr, zt, zu, zw, zx, zy, zz, cE, jA, jB, cD, cO, jC, jD, jE, jF, jG, jH, jI, jJ, jK, jL, jM, jN, jO, jP, jQ, jR, jS, jT, jU, jV, jW, jX, jY, hP, hk, res27, kp27, woE, woS, rowE, mC1, mC0, rowTold, rowMoment, toldF, It.zero, anS, hn0, hn1])
    refine ⟨fun hle => ?_, fun hle => ?_⟩
    · rw [hf0 (by omega)] at hC
      exact opFin hC hres27 hn hρ h.low (vS := .v (.slice none 0 0)) rfl (.inl ⟨⟨none, rfl⟩, rfl⟩) rfl
    · rw [hf1 (by omega)] at hC
      exact opFin hC hres27 hn hρ h.low (vS := .rw 1 X.items.length) rfl (.inr ⟨1, rfl, by decide, .inl rfl⟩) rfl
  · (refine VC_ok hctr (rs := res27) 300 _ _ _ ?_; simp (maxSteps := 1000000) only [VC, qA, qB, qC, qD, qE, qF, qG, qH, qI, qJ, qK, qL, qM, qN, qO, qP, qQ, qR, qS, qT, qU, qV, qW, qX, qY, qZ, qe, qf, qg, qh, qj, qk, ql, qm, qn, qo, qp, qq, qt, qu, qv, ev, qw, qy, qz, zA, zB, zC, zD, zE, zF, zG, zH, zI, zJ, TE.sv, zK, zL, zM, ↓reduceIte, reduceCtorEq, Value.oneCell', Nat.reduceEqDiff, Nat.reduceAdd, Nat.reduceLT, Nat.reduceBEq, Nat.reduceSub, Nat.reduceLeDiff, zP, zQ, zR, zS, zT, zU, zV, zW, zX, zY, zZ, za, zb, zc, zd, ze, zf, zg, zh, zi, zj, zk, zl, zm, zn, zo, zp, zq, zr, zt, zu, zw, zx, zy, zz, cE, jA, jB, cD, cO, jC, jD, jE, jF, jG, jH, jI, jJ, jK, jL, jM, jN, jO, jP, jQ, jR, jS, jT, jU, jV, jW, jX, jY, hP, hk, res27, kp27, woE, woS, winE, itS, mC1, mC0, rowTold, rowMoment, toldF, It.zero, anS, hn0, hn1])
    (refine Run_drawD hctr (by rw [hP]; rfl) rs27_2 [] (ensure_type_of% (Cmp.of (by simp (maxSteps := 1000000) only [VC, qA, qB, qC, qD, qE, qF, qG, qH, qI, qJ, qK, qL, qM, qN, qO, qP, qQ, qR, qS, qT, qU, qV, qW, qX, qY, qZ, qe, qf, qg, qh, qj, qk, ql, qm, qn, qo, qp, qq, qt, qu, qv, ev, qw, qy, qz, zA, zB, zC, zD, zE, zF, zG, zH, zI, zJ, TE.sv, zK, zL, zM, ↓reduceIte, reduceCtorEq, Value.oneCell', Nat.reduceEqDiff, Nat.reduceAdd, Nat.reduceLT, Nat.reduceBEq, Nat.reduceSub, Nat.reduceLeDiff, zP, zQ, zR, zS, zT, zU, zV, zW, zX, zY, zZ, za, zb, zc, zd, ze, zf, zg, zh, zi, zj, zk, zl, zm, zn, zo, zp, zq, zr, zt, zu, zw, zx, zy, zz, cE, jA, jB, cD, cO, jC, jD, jE, jF, jG, jH, jI, jJ, jK, jL, jM, jN, jO, jP, jQ, jR, jS, jT, jU, jV, jW, jX, jY, hP, woE, woS, winE, itS, mC1, mC0, rowTold, rowMoment, toldF, It.zero, anS, hn0, hn1]; rfl)) "" Cmp.mk) (by kernel_rfl) (by kernel_rfl) (by first | exact lenB_one _ | kernel_rfl) (by kernel_rfl) (by rfl) (by rfl) (by first | exact firstN_self _ | rfl) (by rfl) (by simp (maxSteps := 1000000) only [VC, qA, qB, qC, qD, qE, qF, qG, qH, qI, qJ, qK, qL, qM, qN, qO, qP, qQ, qR, qS, qT, qU, qV, qW, qX, qY, qZ, qe, qf, qg, qh, qj, qk, ql, qm, qn, qo, qp, qq, qt, qu, qv, ev, qw, qy, qz, zA, zB, zC, zD, zE, zF, zG, zH, zI, zJ, TE.sv, zK, zL, zM, ↓reduceIte, reduceCtorEq, Value.oneCell', Nat.reduceEqDiff, Nat.reduceAdd, Nat.reduceLT, Nat.reduceBEq, Nat.reduceSub, Nat.reduceLeDiff, zP, zQ, zR, zS, zT, zU, zV, zW, zX, zY, zZ, za, zb, zc, zd, ze, zf, zg, zh, zi, zj, zk, zl, zm, zn, zo, zp, zq, zr, zt, zu, zw, zx, zy, zz, cE, jA, jB, cD, cO, jC, jD, jE, jF, jG, jH, jI, jJ, jK, jL, jM, jN, jO, jP, jQ, jR, jS, jT, jU, jV, jW, jX, jY, hP, woE, woS, winE, itS, mC1, mC0, rowTold, rowMoment, toldF, It.zero, anS, hn0, hn1]) ?_; refine VC_ok hctr (rs := res27) 300 _ _ _ ?_; simp (maxSteps := 1000000) only [VC, qA, qB, qC, qD, qE, qF, qG, qH, qI, qJ, qK, qL, qM, qN, qO, qP, qQ, qR, qS, qT, qU, qV, qW, qX, qY, qZ, qe, qf, qg, qh, qj, qk, ql, qm, qn, qo, qp, qq, qt, qu, qv, ev, qw, qy, qz, zA, zB, zC, zD, zE, zF, zG, zH, zI, zJ, TE.sv, zK, zL, zM, ↓reduceIte, reduceCtorEq, Value.oneCell', Nat.reduceEqDiff, Nat.reduceAdd, Nat.reduceLT, Nat.reduceBEq, Nat.reduceSub, Nat.reduceLeDiff, zP, zQ, zR, zS, zT, zU, zV, zW, zX, zY, zZ, za, zb, zc, zd, ze, zf, zg, zh, zi, zj, zk, zl, zm, zn, zo, zp, zq, zr, zt, zu, zw, zx, zy, zz, cE, jA, jB, cD, cO, jC, jD, jE, jF, jG, jH, jI, jJ, jK, jL, jM, jN, jO, jP, jQ, jR, jS, jT, jU, jV, jW, jX, jY, hP, hk, res27, kp27, woE, woS, winE, itS, mC1, mC0, rowTold, rowMoment, toldF, It.zero, anS, hn0, hn1])
    refine ⟨fun hle => ?_, fun hle => ?_⟩
    · rw [hf0 (by omega)] at hC
      exact opFin hC hres27 hn hρ h.low (vS := .v (.slice none 0 0)) rfl (.inl ⟨⟨none, rfl⟩, rfl⟩) rfl
    · rw [hf1 (by omega)] at hC
      exact opFin hC hres27 hn hρ h.low (vS := .rw 1 X.items.length) rfl (.inr ⟨1, rfl, by decide, .inr ⟨i, x, hx, rfl⟩⟩) rfl
end Go.Proofs.YtfmpdbngpknmaaaDoor
/- slices.Delete of one item, as a call in a walk; remove. -/
namespace Go.Proofs.YtfmpdbngpknmaaaDoor
set_option linter.unusedSimpArgs false
set_option linter.unusedVariables false
open Go.RowKit

/-- entries where the row has lost an item: the old row's entry is no more, a new one stands at N -/
def Cut (N : Nat) (en en' : List EN) (d : Nat) (zN : EN) : Prop :=
  zD en' N = some zN ∧ ∀ q, q ≠ N → (q ≠ d ∧ zD en' q = zD en q) ∨ (q = d ∧ ∃ e, zD en q = some e ∧ zD en' q = some (deadOf e))

theorem delete_h {C : Cx} {nE N : Nat} {mk : Nat → Prop} {en en' : List EN} {base d : Nat} {xs : List It} {i p : Nat} {e1 : EN}
    (hP : C.P = Tryd.prog) (h1 : zD en d = some e1) (he : e1 = rowE base xs ∨ ∃ j y, xs[j]? = some y ∧ e1 = winE base xs j y) (hn1 : C.n0 ≤ N)
    (hp : xs.length = p + 1) (hi : i ≤ p) (hn : xs.length ≤ 1000000000) (hE : d < nE) (hmk : ∀ q, mk q ↔ q = N) (hm : Cut N en en' d (rowE base (xs.eraseIdx i))) :
    HCall C nE mk en en' 40 [.c (.rw d (p + 1)), .c (.i .i64 i), .c (.i .i64 ((i : Int) + 1))] (.c (.rw N p)) := by
  refine ⟨fun args w => by rw [hP]; exact Tryd.call40 args w, ?_⟩
  intro ρ pr w hpr hmn hw hex hwf
  rw [hP]
  have l1 : pr d := hpr d hE
  have lN : ¬ pr N := hmn _ ((hmk _).2 rfl)
  have hnl : (ρ d).nl = none := by
    rcases he with he | ⟨j, x, hx, he⟩
    · rw [he] at h1
      rcases (hw.ho d _ _ _ l1 h1).2 with ⟨hn, _⟩ | ⟨_, h0, _⟩
      · exact hn
      · rw [h0] at hp; simp at hp
    · rw [he] at h1
      exact Decidable.byContradiction fun hd => by have := (hw.hp d _ _ _ l1 h1).non hd; cases this
  have hlive : deadE (ρ d) (zD en d) = false := by
    rcases he with he | ⟨_, _, _, he⟩ <;> (rw [he] at h1; exact (deadE_of h1).2 ⟨(show (31 : Nat) ≠ DEAD by decide), hnl⟩)
  have hI : ∃ R, Items w (ρ d).blk (ρ d).cap xs R ∧ base ≤ (ρ d).blk ∧ 0 < (ρ d).cap := by
    rcases he with he | ⟨j, x, hx, he⟩
    · rw [he] at h1
      have e1 := (hw.hp d _ _ _ l1 h1).heap ⟨(show (31 : Nat) ≠ DEAD by decide), hnl⟩
      rcases (hw.ho d _ _ _ l1 h1).2 with ⟨_, q1, qc, q2, q3, R, q4, q5⟩ | ⟨hn, _⟩
      · refine ⟨R, ⟨?_, q5, q2⟩, q1, qc⟩
        rw [e1, q3, q4]; rfl
      · exact absurd hnl hn
    · rw [he] at h1
      have e1 := (hw.hp d _ _ _ l1 h1).heap ⟨(show (31 : Nat) ≠ DEAD by decide), hnl⟩
      obtain ⟨_, q1, qc, q2, q3, R, q4, q5⟩ := hw.ho d _ _ _ l1 h1
      refine ⟨R, ⟨?_, q5, q2⟩, q1, qc⟩
      rw [e1, q3, q4, ← win_flat hx]
      simp only [List.append_assoc]
      rfl
  have hmu : C.S (ρ d).blk ∨ C.w0.heap.size ≤ (ρ d).blk := by
    rcases he with he | ⟨_, _, _, he⟩ <;> (rw [he] at h1; exact hw.mu d _ _ l1 h1)
  obtain ⟨R, hI, hbr, hcp⟩ := hI
  have hargs : (List.map (SV.den ρ) [.c (.rw d (p + 1)), .c (.i .i64 i), .c (.i .i64 ((i : Int) + 1))]).toArray = #[.slice (some ⟨(ρ d).blk, 0, none⟩) (p + 1) (ρ d).cap, .int .i64 i, .int .i64 ((i : Int) + 1)] := by
    simp [SV.den, SC.den, rwOf_on hnl]
  rw [hargs]
  refine (delete1 (ρ d).blk (ρ d).cap i p xs R w hI hp hi hn).mono ?_
  rintro e w' ⟨rfl, ⟨R', hI'⟩, hU⟩
  obtain ⟨ρ', hρ'⟩ : ∃ ρ' : Nat → RE, ρ' = fun q => if q = N then ⟨(ρ d).blk, [], flat (xs.eraseIdx i) ++ R', (ρ d).cap, none⟩ else ρ q := ⟨_, rfl⟩
  have hold : ∀ q, pr q → ρ' q = ρ q := by
    intro q hq
    simp only [hρ']
    exact if_neg (fun h : q = N => lN (h ▸ hq))
  have hnew : ρ' N = ⟨(ρ d).blk, [], flat (xs.eraseIdx i) ++ R', (ρ d).cap, none⟩ := by simp only [hρ', if_true]
  have hsame : (fun q => pr q ∨ mk q) = fun q => pr q ∨ q = N := funext fun q => propext (or_congr_right (hmk q))
  rw [hsame]
  obtain ⟨mN, mq⟩ := hm
  have hcase : ∀ q ty cells mu, (pr q ∨ q = N) → zD en' q = some ⟨ty, cells, mu⟩ →
      (q = N ∧ (⟨ty, cells, mu⟩ : EN) = rowE base (xs.eraseIdx i)) ∨ (pr q ∧ q ≠ d ∧ zD en q = some ⟨ty, cells, mu⟩) ∨ (pr q ∧ q = d ∧ ∃ e, zD en q = some e ∧ (⟨ty, cells, mu⟩ : EN) = deadOf e) := by
    intro q ty cells mu hq he
    by_cases hqN : q = N
    · subst hqN
      exact .inl ⟨rfl, by rw [mN] at he; exact (Option.some.inj he).symm⟩
    have hq' := hq.resolve_right hqN
    rcases mq q hqN with ⟨k1, k2⟩ | ⟨k1, e, k2, k3⟩
    · exact .inr (.inl ⟨hq', k1, k2 ▸ he⟩)
    · exact .inr (.inr ⟨hq', k1, e, k2, by rw [k3] at he; exact (Option.some.inj he).symm⟩)
  have hoff : ∀ q, pr q → q ≠ d → deadE (ρ q) (zD en q) = false → (ρ q).blk ≠ (ρ d).blk := fun q hq hqd hl h => hqd (hw.inj q d hq l1 hl hlive h)
  have hl2 : ∀ q ty cells mu, zD en q = some ⟨ty, cells, mu⟩ → ty.1 ≠ DEAD ∧ (ρ q).nl = none → deadE (ρ q) (zD en q) = false := fun q ty cells mu he hl => (deadE_of he).2 hl
  refine ⟨ρ', hold, ?_, .inr rfl, ⟨?_, ?_, ?_, ?_, ?_, ?_⟩, ?_⟩
  · simp [SV.den, SC.den, hnew, rwOf]
  · intro q ty cells mu hq he
    rcases hcase q ty cells mu hq he with ⟨rfl, h⟩ | ⟨hq', hqd, h⟩ | ⟨hq', hqd, e, h, h2⟩
    · simp only [rowE, EN.mk.injEq] at h
      obtain ⟨rfl, rfl, rfl⟩ := h
      refine ⟨fun _ => ?_, (fun y hy => nomatch hy), fun hd => absurd (show (31 : Nat) = DEAD from hd) (by decide), fun _ => rfl⟩
      rw [hnew, hI'.heap]
      rfl
    · have hp := hw.hp q ty cells mu hq' h
      refine ⟨fun hl => ?_, wfs_mono hp.wf (fun _ h => Or.inl h), hp.dead, by rw [hold q hq']; exact hp.non⟩
      rw [hold q hq'] at hl
      rw [hold q hq', dens_congr hp.wf hold, hU.block _ (hw.lt hq' (hl2 _ _ _ _ h hl)) (hoff q hq' hqd (hl2 _ _ _ _ h hl))]
      exact hp.heap hl
    · simp only [deadOf, EN.mk.injEq] at h2
      obtain ⟨rfl, rfl, rfl⟩ := h2
      exact ⟨fun hl => absurd rfl hl.1, (fun y hy => nomatch hy), fun _ => ⟨rfl, rfl⟩, fun _ => rfl⟩
  · intro q ty cells mu hq he
    rcases hcase q ty cells mu hq he with ⟨rfl, h⟩ | ⟨hq', hqd, h⟩ | ⟨hq', hqd, e, h, h2⟩
    · simp only [rowE, EN.mk.injEq] at h
      obtain ⟨rfl, rfl, rfl⟩ := h
      rw [hnew]
      exact ⟨rfl, .inl ⟨rfl, hbr, hcp, hI'.big, rfl, R', rfl, hI'.fit⟩⟩
    · rw [hold q hq']
      exact hw.ho q _ _ _ hq' h
    · cases e
      simp only [deadOf, EN.mk.injEq] at h2
      obtain ⟨rfl, rfl, rfl⟩ := h2
      rw [hold q hq']
      have h3 := hw.ho q _ _ _ hq' h
      exact h3
  · have hlv : ∀ q, pr q → deadE (ρ q) (zD en' q) = false → q ≠ d ∧ zD en' q = zD en q := by
      intro q hq hl
      rcases mq q (fun h => lN (h ▸ hq)) with h | ⟨_, e, _, h3⟩
      · exact h
      · rw [h3] at hl; exact absurd hl (by simp [deadOf, deadE])
    intro q d2 hq hd hql hdl hb
    rcases hq with hq | rfl <;> rcases hd with hd | rfl
    · rw [hold q hq, hold d2 hd] at hb
      rw [hold q hq] at hql
      rw [hold d2 hd] at hdl
      exact hw.inj q d2 hq hd (by rw [← (hlv q hq hql).2]; exact hql) (by rw [← (hlv d2 hd hdl).2]; exact hdl) hb
    · rw [hold q hq, hnew] at hb
      rw [hold q hq] at hql
      obtain ⟨k1, k2⟩ := hlv q hq hql
      exact absurd hb (hoff q hq k1 (by rw [← k2]; exact hql))
    · rw [hold d2 hd, hnew] at hb
      rw [hold d2 hd] at hdl
      obtain ⟨k1, k2⟩ := hlv d2 hd hdl
      exact absurd hb.symm (hoff d2 hd k1 (by rw [← k2]; exact hdl))
    · rfl
  · refine hw.up.trans hU fun k hk hT => ?_
    rw [show k = (ρ d).blk from hT] at hk ⊢
    exact hmu.resolve_right (by omega)
  · intro q ty cells hq he
    rcases hcase q ty cells true hq he with ⟨rfl, h⟩ | ⟨hq', hqd, h⟩ | ⟨hq', hqd, e, h, h2⟩
    · rw [hnew]; exact hmu
    · rw [hold q hq']; exact hw.mu q _ _ hq' h
    · simp only [deadOf, EN.mk.injEq] at h2
      exact absurd h2.2.2 (by decide)
  · intro q hq
    simp only [hρ']
    rw [if_neg (by omega)]
    exact hw.ini q hq
  · intro q hq
    rw [(hmk q).1 hq, mN]
    exact fun h => nomatch h
theorem delete_h' {C : Cx} {nE N : Nat} {mk : Nat → Prop} {en en' : List EN} {base d : Nat} {xs : List It} {i : Nat} {e1 : EN}
    (hP : C.P = Tryd.prog) (h1 : zD en d = some e1) (he : e1 = rowE base xs ∨ ∃ j y, xs[j]? = some y ∧ e1 = winE base xs j y) (hn1 : C.n0 ≤ N)
    (hi : i < xs.length) (hn : xs.length ≤ 1000000000) (hE : d < nE) (hmk : ∀ q, mk q ↔ q = N) (hm : Cut N en en' d (rowE base (xs.eraseIdx i))) :
    HCall C nE mk en en' 40 [.c (.rw d xs.length), .c (.i .i64 i), .c (.i .i64 ((i : Int) + 1))] (.c (.rw N (xs.eraseIdx i).length)) := by
  obtain ⟨p, hp⟩ : ∃ p, xs.length = p + 1 := ⟨xs.length - 1, by omega⟩
  have h2 : (xs.eraseIdx i).length = p := by rw [List.length_eraseIdx, if_pos hi]; omega
  rw [hp, h2]
  exact delete_h hP h1 he hn1 hp (by omega) hn hE hmk hm
theorem cut_at {z e1 zN : EN} {more : List EN} {N : Nat} (h : zD more N = some zN) : Cut (N + 2) (z :: e1 :: more) (z :: deadOf e1 :: more) 1 zN := by
  refine ⟨h, ?_⟩
  intro q hN
  by_cases h1 : q = 1
  · subst h1
    exact .inr ⟨rfl, e1, rfl, rfl⟩
  refine .inl ⟨h1, ?_⟩
  match q, h1 with
  | 0, _ => rfl
  | q + 2, _ => rfl
end Go.Proofs.YtfmpdbngpknmaaaDoor
/- remove, by the symbolic walk: printed by gen_remove.py. -/
namespace Go.Proofs.YtfmpdbngpknmaaaDoor
set_option linter.unusedSimpArgs false
set_option linter.unusedVariables false
set_option linter.unusedSimpArgs false
set_option linter.unusedVariables false
set_option maxHeartbeats 8000000
open Go.RowKit

set_option maxRecDepth 100000
theorem remove_no (base g : Nat) (v : Value) (X : St) (now : Int) (op mode : Int) (key val : List UInt8) (flags exp : Int) (hasExp : Bool) (cas : Int) (hasCas : Bool) (delta init : Int) (down viv : Bool) (vive recache : Int) (inval : Bool) (most : Int) (i : Nat) (w : World) (h : WS base w g v X now ⟨op, mode, key, val, flags, exp, hasExp, cas, hasCas, delta, init, down, viv, vive, recache, inval⟩ most i false) (hbase : base ≤ w.heap.size) (hi : i ≤ X.items.length) (his : false = true → i < X.items.length) (hl : X.items.length ≤ 100000000)
  (hn0 : 1 ≤ now) (hn1 : now ≤ 1099511627776)
  : Calls Tryd.prog 26 #[.pointer (some ⟨g, 0, none⟩)] w (OpR base g v (removeF X now ⟨op, mode, key, val, flags, exp, hasExp, cas, hasCas, delta, init, down, viv, vive, recache, inval⟩ i false).1 now ⟨op, mode, key, val, flags, exp, hasExp, cas, hasCas, delta, init, down, viv, vive, recache, inval⟩ most i false (removeF X now ⟨op, mode, key, val, flags, exp, hasExp, cas, hasCas, delta, init, down, viv, vive, recache, inval⟩ i false).2 w) := by
  refine op_run Tryd.func26 rfl kp26 Tryd.ntmps26 (by decide) h hbase his ?_
  intro vS tl hsh ρ hρ n hn hn' C hC hG hP hk
  have hctr := mC1_ok hP
  rw [show removeF X now ⟨op, mode, key, val, flags, exp, hasExp, cas, hasCas, delta, init, down, viv, vive, recache, inval⟩ i false = (X, toldF 5) by simp [removeF]] at hC
  rcases hsh with ⟨rfl, ⟨_, rfl⟩ | ⟨h1, _⟩⟩
  · (refine VG_ok hctr (rs := res26) true 300 _ _ _ ?_; simp (maxSteps := 1000000) only [VG, jZ, ja, jd, je, VC, qA, qB, qC, qD, qE, qF, qG, qH, qI, qJ, qK, qL, qM, qN, qO, qP, qQ, qR, qS, qT, qU, qV, qW, qX, qY, qZ, qe, qf, qg, qh, qj, qk, ql, qm, qn, qo, qp, qq, qt, qu, qv, ev, qw, qy, qz, zA, zB, zC, zD, zE, zF, zG, zH, zI, zJ, TE.sv, zK, zL, zM, ↓reduceIte, reduceCtorEq, Value.oneCell', Nat.reduceEqDiff, Nat.reduceAdd, Nat.reduceLT, Nat.reduceBEq, Nat.reduceSub, Nat.reduceLeDiff, zP, zQ, zR, zS, zT, zU, zV, zW, zX, zY, zZ, za, zb, zc, zd, ze, zf, zg, zh, zi, zj, zk, zl, zm, zn, zo, zp, zq, zr, zt, zu, zw, zx, zy, zz, cE, jA, jB, cD, cO, jC, jD, jE, jF, jG, jH, jI, jJ, jK, jL, jM, jN, jO, jP, jQ, jR, jS, jT, jU, jV, jW, jX, jY, hP, hk, res26, kp26, mC1, mC0, rowTold, rowMoment, rowItem, rowOther, toldF, It.zero, anS, woE, woS, winE, rowE, itS, deadOf, hn0, hn1, Int.natCast_nonneg])
    exact opFin hC hres26 hn hρ h.low (vS := .rw 1 X.items.length) rfl (.inr ⟨1, rfl, by decide, .inl rfl⟩) rfl
  · cases h1
theorem remove_win (base g : Nat) (v : Value) (X : St) (now : Int) (op mode : Int) (key val : List UInt8) (flags exp : Int) (hasExp : Bool) (cas : Int) (hasCas : Bool) (delta init : Int) (down viv : Bool) (vive recache : Int) (inval : Bool) (most : Int) (i : Nat) (w : World) (h : WS base w g v X now ⟨op, mode, key, val, flags, exp, hasExp, cas, hasCas, delta, init, down, viv, vive, recache, inval⟩ most i true) (hbase : base ≤ w.heap.size) (hi : i ≤ X.items.length) (his : true = true → i < X.items.length) (hl : X.items.length ≤ 100000000)
  (hn0 : 1 ≤ now) (hn1 : now ≤ 1099511627776)
  (x : It) (hx : X.items[i]? = some x) : Calls Tryd.prog 26 #[.pointer (some ⟨g, 0, none⟩)] w (OpR base g v (removeF X now ⟨op, mode, key, val, flags, exp, hasExp, cas, hasCas, delta, init, down, viv, vive, recache, inval⟩ i true).1 now ⟨op, mode, key, val, flags, exp, hasExp, cas, hasCas, delta, init, down, viv, vive, recache, inval⟩ most i true (removeF X now ⟨op, mode, key, val, flags, exp, hasExp, cas, hasCas, delta, init, down, viv, vive, recache, inval⟩ i true).2 w) := by
  refine op_run Tryd.func26 rfl kp26 Tryd.ntmps26 (by decide) h hbase his ?_
  intro vS tl hsh ρ hρ n hn hn' C hC hG hP hk
  have hctr := mC1_ok hP
  rcases hsh with ⟨rfl, ⟨h1, _⟩ | ⟨_, x', hx', rfl⟩⟩
  · cases h1
  obtain rfl : x = x' := by rw [hx] at hx'; exact Option.some.inj hx'
  clear hx'
  have hif : itF X.items i = x := by simp [itF, hx]
  have hil : i < X.items.length := his rfl
  have hil' : (i : Int) < (X.items.length : Int) := by omega
  have hsub : IntKind.i64.wrap ((i : Int) + 1) = (i : Int) + 1 := IntWalk.i64_in _ (by omega)
  cases hasCas with
  | false =>
    cases inval with
    | false =>
      (refine VG_ok hctr (rs := res26) true 300 _ _ _ ?_; simp (maxSteps := 1000000) only [VG, jZ, ja, jd, je, VC, qA, qB, qC, qD, qE, qF, qG, qH, qI, qJ, qK, qL, qM, qN, qO, qP, qQ, qR, qS, qT, qU, qV, qW, qX, qY, qZ, qe, qf, qg, qh, qj, qk, ql, qm, qn, qo, qp, qq, qt, qu, qv, ev, qw, qy, qz, zA, zB, zC, zD, zE, zF, zG, zH, zI, zJ, TE.sv, zK, zL, zM, ↓reduceIte, reduceCtorEq, Value.oneCell', Nat.reduceEqDiff, Nat.reduceAdd, Nat.reduceLT, Nat.reduceBEq, Nat.reduceSub, Nat.reduceLeDiff, zP, zQ, zR, zS, zT, zU, zV, zW, zX, zY, zZ, za, zb, zc, zd, ze, zf, zg, zh, zi, zj, zk, zl, zm, zn, zo, zp, zq, zr, zt, zu, zw, zx, zy, zz, cE, jA, jB, cD, cO, jC, jD, jE, jF, jG, jH, jI, jJ, jK, jL, jM, jN, jO, jP, jQ, jR, jS, jT, jU, jV, jW, jX, jY, hP, hk, res26, kp26, mC1, mC0, rowTold, rowMoment, rowItem, rowOther, toldF, It.zero, anS, woE, woS, winE, rowE, itS, deadOf, hn0, hn1, Int.natCast_nonneg, hil', hsub])
      rw [show removeF X now ⟨op, mode, key, val, flags, exp, hasExp, cas, false, delta, init, down, viv, vive, recache, false⟩ i true = ({ X with items := X.items.eraseIdx i }, toldF 9) by simp [removeF, otherB, hif]] at hC
      (refine Run_drawD hctr (by rw [hP]; rfl) rs26_6 [⟨.c (.rw 3 (X.items.eraseIdx i).length), [woE (.rw 1 X.items.length) X now ⟨op, mode, key, val, flags, exp, hasExp, cas, false, delta, init, down, viv, vive, recache, false⟩ most i true, deadOf (winE base X.items i x), ⟨(33, 0, whole), [.i .i64 0, .s [], .i .u32 0, .s [], .i .i64 0, .i .u64 0, .i .i64 0, .b false, .b false, .i .u64 0, .b false, .b false, .b false], true⟩, rowE base (X.items.eraseIdx i)]⟩] (ensure_type_of% (Cmp.of (by simp (maxSteps := 1000000) only [VC, qA, qB, qC, qD, qE, qF, qG, qH, qI, qJ, qK, qL, qM, qN, qO, qP, qQ, qR, qS, qT, qU, qV, qW, qX, qY, qZ, qe, qf, qg, qh, qj, qk, ql, qm, qn, qo, qp, qq, qt, qu, qv, ev, qw, qy, qz, zA, zB, zC, zD, zE, zF, zG, zH, zI, zJ, TE.sv, zK, zL, zM, ↓reduceIte, reduceCtorEq, Value.oneCell', Nat.reduceEqDiff, Nat.reduceAdd, Nat.reduceLT, Nat.reduceBEq, Nat.reduceSub, Nat.reduceLeDiff, zP, zQ, zR, zS, zT, zU, zV, zW, zX, zY, zZ, za, zb, zc, zd, ze, zf, zg, zh, zi, zj, zk, zl, zm, zn, zo, zp, zq, zr, zt, zu, zw, zx, zy, zz, cE, jA, jB, cD, cO, jC, jD, jE, jF, jG, jH, jI, jJ, jK, jL, jM, jN, jO, jP, jQ, jR, jS, jT, jU, jV, jW, jX, jY, hP, mC1, mC0, rowTold, rowMoment, rowItem, rowOther, toldF, It.zero, anS, woE, woS, winE, rowE, itS, deadOf, hn0, hn1, Int.natCast_nonneg, hil', hsub]; rfl)) "" Cmp.mk) (by kernel_rfl) (by kernel_rfl) (by first | exact lenB_one _ | kernel_rfl) (by kernel_rfl) (by rfl) (by rfl) (by first | exact firstN_self _ | rfl) (by rfl) ?_ ?_; rotate_left; refine VG_ok hctr (rs := res26) true 300 _ _ _ ?_; simp (maxSteps := 1000000) only [VG, jZ, ja, jd, je, VC, qA, qB, qC, qD, qE, qF, qG, qH, qI, qJ, qK, qL, qM, qN, qO, qP, qQ, qR, qS, qT, qU, qV, qW, qX, qY, qZ, qe, qf, qg, qh, qj, qk, ql, qm, qn, qo, qp, qq, qt, qu, qv, ev, qw, qy, qz, zA, zB, zC, zD, zE, zF, zG, zH, zI, zJ, TE.sv, zK, zL, zM, ↓reduceIte, reduceCtorEq, Value.oneCell', Nat.reduceEqDiff, Nat.reduceAdd, Nat.reduceLT, Nat.reduceBEq, Nat.reduceSub, Nat.reduceLeDiff, zP, zQ, zR, zS, zT, zU, zV, zW, zX, zY, zZ, za, zb, zc, zd, ze, zf, zg, zh, zi, zj, zk, zl, zm, zn, zo, zp, zq, zr, zt, zu, zw, zx, zy, zz, cE, jA, jB, cD, cO, jC, jD, jE, jF, jG, jH, jI, jJ, jK, jL, jM, jN, jO, jP, jQ, jR, jS, jT, jU, jV, jW, jX, jY, hP, hk, res26, kp26, mC1, mC0, rowTold, rowMoment, rowItem, rowOther, toldF, It.zero, anS, woE, woS, winE, rowE, itS, deadOf, hn0, hn1, Int.natCast_nonneg, hil', hsub]; rotate_left; simp (maxSteps := 1000000) only [VC, qA, qB, qC, qD, qE, qF, qG, qH, qI, qJ, qK, qL, qM, qN, qO, qP, qQ, qR, qS, qT, qU, qV, qW, qX, qY, qZ, qe, qf, qg, qh, qj, qk, ql, qm, qn, qo, qp, qq, qt, qu, qv, ev, qw, qy, qz, zA, zB, zC, zD, zE, zF, zG, zH, zI, zJ, TE.sv, zK, zL, zM, ↓reduceIte, reduceCtorEq, Value.oneCell', Nat.reduceEqDiff, Nat.reduceAdd, Nat.reduceLT, Nat.reduceBEq, Nat.reduceSub, Nat.reduceLeDiff, zP, zQ, zR, zS, zT, zU, zV, zW, zX, zY, zZ, za, zb, zc, zd, ze, zf, zg, zh, zi, zj, zk, zl, zm, zn, zo, zp, zq, zr, zt, zu, zw, zx, zy, zz, cE, jA, jB, cD, cO, jC, jD, jE, jF, jG, jH, jI, jJ, jK, jL, jM, jN, jO, jP, jQ, jR, jS, jT, jU, jV, jW, jX, jY, hP, mC1, mC0, rowTold, rowMoment, rowItem, rowOther, toldF, It.zero, anS, woE, woS, winE, rowE, itS, deadOf, hn0, hn1, Int.natCast_nonneg, hil', hsub])
      · refine delete_h' hP (d := 1) (i := i) (xs := X.items) (base := base) ?_ (.inr ⟨i, x, hx, rfl⟩) ?_ hil ?_ ?_ ?_ ?_
        · rfl
        · have := hG.n1; omega
        · omega
        · decide
        · exact fun q => mkC_one
        · exact cut_at rfl
      · exact opFin hC hres26 hn hρ h.low (vS := .rw 3 (X.items.eraseIdx i).length) rfl (.inr ⟨3, rfl, by decide, .inl rfl⟩) rfl
    | true =>
      cases hasExp
      · (refine VG_ok hctr (rs := res26) true 300 _ _ _ ?_; simp (maxSteps := 1000000) only [VG, jZ, ja, jd, je, VC, qA, qB, qC, qD, qE, qF, qG, qH, qI, qJ, qK, qL, qM, qN, qO, qP, qQ, qR, qS, qT, qU, qV, qW, qX, qY, qZ, qe, qf, qg, qh, qj, qk, ql, qm, qn, qo, qp, qq, qt, qu, qv, ev, qw, qy, qz, zA, zB, zC, zD, zE, zF, zG, zH, zI, zJ, TE.sv, zK, zL, zM, ↓reduceIte, reduceCtorEq, Value.oneCell', Nat.reduceEqDiff, Nat.reduceAdd, Nat.reduceLT, Nat.reduceBEq, Nat.reduceSub, Nat.reduceLeDiff, zP, zQ, zR, zS, zT, zU, zV, zW, zX, zY, zZ, za, zb, zc, zd, ze, zf, zg, zh, zi, zj, zk, zl, zm, zn, zo, zp, zq, zr, zt, zu, zw, zx, zy, zz, cE, jA, jB, cD, cO, jC, jD, jE, jF, jG, jH, jI, jJ, jK, jL, jM, jN, jO, jP, jQ, jR, jS, jT, jU, jV, jW, jX, jY, hP, hk, res26, kp26, mC1, mC0, rowTold, rowMoment, rowItem, rowOther, toldF, It.zero, anS, woE, woS, winE, rowE, itS, deadOf, hn0, hn1, Int.natCast_nonneg, hil', hsub])
        obtain ⟨Y, hY⟩ : ∃ Y, Y = putF X i true ⟨x.key, x.flags, x.val, x.exp, x.cas, x.last, true, false⟩ := ⟨_, rfl⟩
        have hYi : Y.1.items[i]? = some Y.2 := by rw [hY]; exact putF_get X i _ _ hi his
        rw [show removeF X now ⟨op, mode, key, val, flags, exp, false, cas, false, delta, init, down, viv, vive, recache, true⟩ i true = (Y.1, ⟨9, Y.2, 0, false, false, false⟩) by rw [hY]; simp [removeF, otherB, goneF, hif]] at hC
        refine Run_put ⟨x.key, x.flags, x.val, x.exp, x.cas, x.last, true, false⟩ hY hG (X := X) (now := now) (c := ⟨op, mode, key, val, flags, exp, false, cas, false, delta, init, down, viv, vive, recache, true⟩) (most := most) (i := i) (is := true) rfl (.inr ⟨i, x, hx, rfl⟩) hi his hl rfl (by simp) ?_
        (refine VG_ok hctr (rs := res26) true 300 _ _ _ ?_; simp (maxSteps := 1000000) only [VG, jZ, ja, jd, je, VC, qA, qB, qC, qD, qE, qF, qG, qH, qI, qJ, qK, qL, qM, qN, qO, qP, qQ, qR, qS, qT, qU, qV, qW, qX, qY, qZ, qe, qf, qg, qh, qj, qk, ql, qm, qn, qo, qp, qq, qt, qu, qv, ev, qw, qy, qz, zA, zB, zC, zD, zE, zF, zG, zH, zI, zJ, TE.sv, zK, zL, zM, ↓reduceIte, reduceCtorEq, Value.oneCell', Nat.reduceEqDiff, Nat.reduceAdd, Nat.reduceLT, Nat.reduceBEq, Nat.reduceSub, Nat.reduceLeDiff, zP, zQ, zR, zS, zT, zU, zV, zW, zX, zY, zZ, za, zb, zc, zd, ze, zf, zg, zh, zi, zj, zk, zl, zm, zn, zo, zp, zq, zr, zt, zu, zw, zx, zy, zz, cE, jA, jB, cD, cO, jC, jD, jE, jF, jG, jH, jI, jJ, jK, jL, jM, jN, jO, jP, jQ, jR, jS, jT, jU, jV, jW, jX, jY, hP, hk, res26, kp26, mC1, mC0, rowTold, rowMoment, rowItem, rowOther, toldF, It.zero, anS, woE, woS, winE, rowE, itS, deadOf, hn0, hn1, Int.natCast_nonneg])
        exact opFin hC hres26 hn hρ h.low (vS := .rw 4 Y.1.items.length) rfl (.inr ⟨4, rfl, by decide, .inr ⟨i, Y.2, hYi, rfl⟩⟩) rfl
      · (refine VG_ok hctr (rs := res26) true 300 _ _ _ ?_; simp (maxSteps := 1000000) only [VG, jZ, ja, jd, je, VC, qA, qB, qC, qD, qE, qF, qG, qH, qI, qJ, qK, qL, qM, qN, qO, qP, qQ, qR, qS, qT, qU, qV, qW, qX, qY, qZ, qe, qf, qg, qh, qj, qk, ql, qm, qn, qo, qp, qq, qt, qu, qv, ev, qw, qy, qz, zA, zB, zC, zD, zE, zF, zG, zH, zI, zJ, TE.sv, zK, zL, zM, ↓reduceIte, reduceCtorEq, Value.oneCell', Nat.reduceEqDiff, Nat.reduceAdd, Nat.reduceLT, Nat.reduceBEq, Nat.reduceSub, Nat.reduceLeDiff, zP, zQ, zR, zS, zT, zU, zV, zW, zX, zY, zZ, za, zb, zc, zd, ze, zf, zg, zh, zi, zj, zk, zl, zm, zn, zo, zp, zq, zr, zt, zu, zw, zx, zy, zz, cE, jA, jB, cD, cO, jC, jD, jE, jF, jG, jH, jI, jJ, jK, jL, jM, jN, jO, jP, jQ, jR, jS, jT, jU, jV, jW, jX, jY, hP, hk, res26, kp26, mC1, mC0, rowTold, rowMoment, rowItem, rowOther, toldF, It.zero, anS, woE, woS, winE, rowE, itS, deadOf, hn0, hn1, Int.natCast_nonneg, hil', hsub])
        obtain ⟨Y, hY⟩ : ∃ Y, Y = putF X i true ⟨x.key, x.flags, x.val, momF now exp, x.cas, x.last, true, false⟩ := ⟨_, rfl⟩
        have hYi : Y.1.items[i]? = some Y.2 := by rw [hY]; exact putF_get X i _ _ hi his
        rw [show removeF X now ⟨op, mode, key, val, flags, exp, true, cas, false, delta, init, down, viv, vive, recache, true⟩ i true = (Y.1, ⟨9, Y.2, 0, false, false, false⟩) by rw [hY]; simp [removeF, otherB, goneF, hif]] at hC
        refine Run_put ⟨x.key, x.flags, x.val, momF now exp, x.cas, x.last, true, false⟩ hY hG (X := X) (now := now) (c := ⟨op, mode, key, val, flags, exp, true, cas, false, delta, init, down, viv, vive, recache, true⟩) (most := most) (i := i) (is := true) rfl (.inr ⟨i, x, hx, rfl⟩) hi his hl rfl (by simp) ?_
        (refine VG_ok hctr (rs := res26) true 300 _ _ _ ?_; simp (maxSteps := 1000000) only [VG, jZ, ja, jd, je, VC, qA, qB, qC, qD, qE, qF, qG, qH, qI, qJ, qK, qL, qM, qN, qO, qP, qQ, qR, qS, qT, qU, qV, qW, qX, qY, qZ, qe, qf, qg, qh, qj, qk, ql, qm, qn, qo, qp, qq, qt, qu, qv, ev, qw, qy, qz, zA, zB, zC, zD, zE, zF, zG, zH, zI, zJ, TE.sv, zK, zL, zM, ↓reduceIte, reduceCtorEq, Value.oneCell', Nat.reduceEqDiff, Nat.reduceAdd, Nat.reduceLT, Nat.reduceBEq, Nat.reduceSub, Nat.reduceLeDiff, zP, zQ, zR, zS, zT, zU, zV, zW, zX, zY, zZ, za, zb, zc, zd, ze, zf, zg, zh, zi, zj, zk, zl, zm, zn, zo, zp, zq, zr, zt, zu, zw, zx, zy, zz, cE, jA, jB, cD, cO, jC, jD, jE, jF, jG, jH, jI, jJ, jK, jL, jM, jN, jO, jP, jQ, jR, jS, jT, jU, jV, jW, jX, jY, hP, hk, res26, kp26, mC1, mC0, rowTold, rowMoment, rowItem, rowOther, toldF, It.zero, anS, woE, woS, winE, rowE, itS, deadOf, hn0, hn1, Int.natCast_nonneg])
        exact opFin hC hres26 hn hρ h.low (vS := .rw 4 Y.1.items.length) rfl (.inr ⟨4, rfl, by decide, .inr ⟨i, Y.2, hYi, rfl⟩⟩) rfl
  | true =>
    by_cases hoc : x.cas = cas
    · have hoc' : decide (x.cas = cas) = true := decide_eq_true hoc
      cases inval with
      | false =>
        (refine VG_ok hctr (rs := res26) true 300 _ _ _ ?_; simp (maxSteps := 1000000) only [VG, jZ, ja, jd, je, VC, qA, qB, qC, qD, qE, qF, qG, qH, qI, qJ, qK, qL, qM, qN, qO, qP, qQ, qR, qS, qT, qU, qV, qW, qX, qY, qZ, qe, qf, qg, qh, qj, qk, ql, qm, qn, qo, qp, qq, qt, qu, qv, ev, qw, qy, qz, zA, zB, zC, zD, zE, zF, zG, zH, zI, zJ, TE.sv, zK, zL, zM, ↓reduceIte, reduceCtorEq, Value.oneCell', Nat.reduceEqDiff, Nat.reduceAdd, Nat.reduceLT, Nat.reduceBEq, Nat.reduceSub, Nat.reduceLeDiff, zP, zQ, zR, zS, zT, zU, zV, zW, zX, zY, zZ, za, zb, zc, zd, ze, zf, zg, zh, zi, zj, zk, zl, zm, zn, zo, zp, zq, zr, zt, zu, zw, zx, zy, zz, cE, jA, jB, cD, cO, jC, jD, jE, jF, jG, jH, jI, jJ, jK, jL, jM, jN, jO, jP, jQ, jR, jS, jT, jU, jV, jW, jX, jY, hP, hk, res26, kp26, mC1, mC0, rowTold, rowMoment, rowItem, rowOther, toldF, It.zero, anS, woE, woS, winE, rowE, itS, deadOf, hn0, hn1, Int.natCast_nonneg, hil', hsub, hoc'])
        rw [show removeF X now ⟨op, mode, key, val, flags, exp, hasExp, cas, true, delta, init, down, viv, vive, recache, false⟩ i true = ({ X with items := X.items.eraseIdx i }, toldF 9) by simp [removeF, otherB, hif, hoc]] at hC
        (refine Run_drawD hctr (by rw [hP]; rfl) rs26_6 [⟨.c (.rw 3 (X.items.eraseIdx i).length), [woE (.rw 1 X.items.length) X now ⟨op, mode, key, val, flags, exp, hasExp, cas, true, delta, init, down, viv, vive, recache, false⟩ most i true, deadOf (winE base X.items i x), ⟨(33, 0, whole), [.i .i64 0, .s [], .i .u32 0, .s [], .i .i64 0, .i .u64 0, .i .i64 0, .b false, .b false, .i .u64 0, .b false, .b false, .b false], true⟩, rowE base (X.items.eraseIdx i)]⟩] (ensure_type_of% (Cmp.of (by simp (maxSteps := 1000000) only [VC, qA, qB, qC, qD, qE, qF, qG, qH, qI, qJ, qK, qL, qM, qN, qO, qP, qQ, qR, qS, qT, qU, qV, qW, qX, qY, qZ, qe, qf, qg, qh, qj, qk, ql, qm, qn, qo, qp, qq, qt, qu, qv, ev, qw, qy, qz, zA, zB, zC, zD, zE, zF, zG, zH, zI, zJ, TE.sv, zK, zL, zM, ↓reduceIte, reduceCtorEq, Value.oneCell', Nat.reduceEqDiff, Nat.reduceAdd, Nat.reduceLT, Nat.reduceBEq, Nat.reduceSub, Nat.reduceLeDiff, zP, zQ, zR, zS, zT, zU, zV, zW, zX, zY, zZ, za, zb, zc, zd, ze, zf, zg, zh, zi, zj, zk, zl, zm, zn, zo, zp, zq, zr, zt, zu, zw, zx, zy, zz, cE, jA, jB, cD, cO, jC, jD, jE, jF, jG, jH, jI, jJ, jK, jL, jM, jN, jO, jP, jQ, jR, jS, jT, jU, jV, jW, jX, jY, hP, mC1, mC0, rowTold, rowMoment, rowItem, rowOther, toldF, It.zero, anS, woE, woS, winE, rowE, itS, deadOf, hn0, hn1, Int.natCast_nonneg, hil', hsub, hoc']; rfl)) "" Cmp.mk) (by kernel_rfl) (by kernel_rfl) (by first | exact lenB_one _ | kernel_rfl) (by kernel_rfl) (by rfl) (by rfl) (by first | exact firstN_self _ | rfl) (by rfl) ?_ ?_; rotate_left; refine VG_ok hctr (rs := res26) true 300 _ _ _ ?_; simp (maxSteps := 1000000) only [VG, jZ, ja, jd, je, VC, qA, qB, qC, qD, qE, qF, qG, qH, qI, qJ, qK, qL, qM, qN, qO, qP, qQ, qR, qS, qT, qU, qV, qW, qX, qY, qZ, qe, qf, qg, qh, qj, qk, ql, qm, qn, qo, qp, qq, qt, qu, qv, ev, qw, qy, qz, zA, zB, zC, zD, zE, zF, zG, zH, zI, zJ, TE.sv, zK, zL, zM, ↓reduceIte, reduceCtorEq, Value.oneCell', Nat.reduceEqDiff, Nat.reduceAdd, Nat.reduceLT, Nat.reduceBEq, Nat.reduceSub, Nat.reduceLeDiff, zP, zQ, zR, zS, zT, zU, zV, zW, zX, zY, zZ, za, zb, zc, zd, ze, zf, zg, zh, zi, zj, zk, zl, zm, zn, zo, zp, zq, zr, zt, zu, zw, zx, zy, zz, cE, jA, jB, cD, cO, jC, jD, jE, jF, jG, jH, jI, jJ, jK, jL, jM, jN, jO, jP, jQ, jR, jS, jT, jU, jV, jW, jX, jY, hP, hk, res26, kp26, mC1, mC0, rowTold, rowMoment, rowItem, rowOther, toldF, It.zero, anS, woE, woS, winE, rowE, itS, deadOf, hn0, hn1, Int.natCast_nonneg, hil', hsub, hoc']; rotate_left; simp (maxSteps := 1000000) only [VC, qA, qB, qC, qD, qE, qF, qG, qH, qI, qJ, qK, qL, qM, qN, qO, qP, qQ, qR, qS, qT, qU, qV, qW, qX, qY, qZ, qe, qf, qg, qh, qj, qk, ql, qm, qn, qo, qp, qq, qt, qu, qv, ev, qw, qy, qz, zA, zB, zC, zD, zE, zF, zG, zH, zI, zJ, TE.sv, zK, zL, zM, ↓reduceIte, reduceCtorEq, Value.oneCell', Nat.reduceEqDiff, Nat.reduceAdd, Nat.reduceLT, Nat.reduceBEq, Nat.reduceSub, Nat.reduceLeDiff, zP, zQ, zR, zS, zT, zU, zV, zW, zX, zY, zZ, za, zb, zc, zd, ze, zf, zg, zh, zi, zj, zk, zl, zm, zn, zo, zp, zq, zr, zt, zu, zw, zx, zy, zz, cE, jA, jB, cD, cO, jC, jD, jE, jF, jG, jH, jI, jJ, jK, jL, jM, jN, jO, jP, jQ, jR, jS, jT, jU, jV, jW, jX, jY, hP, mC1, mC0, rowTold, rowMoment, rowItem, rowOther, toldF, It.zero, anS, woE, woS, winE, rowE, itS, deadOf, hn0, hn1, Int.natCast_nonneg, hil', hsub, hoc'])
        · refine delete_h' hP (d := 1) (i := i) (xs := X.items) (base := base) ?_ (.inr ⟨i, x, hx, rfl⟩) ?_ hil ?_ ?_ ?_ ?_
          · rfl
          · have := hG.n1; omega
          · omega
          · decide
          · exact fun q => mkC_one
          · exact cut_at rfl
        · exact opFin hC hres26 hn hρ h.low (vS := .rw 3 (X.items.eraseIdx i).length) rfl (.inr ⟨3, rfl, by decide, .inl rfl⟩) rfl
      | true =>
        cases hasExp
        · (refine VG_ok hctr (rs := res26) true 300 _ _ _ ?_; simp (maxSteps := 1000000) only [VG, jZ, ja, jd, je, VC, qA, qB, qC, qD, qE, qF, qG, qH, qI, qJ, qK, qL, qM, qN, qO, qP, qQ, qR, qS, qT, qU, qV, qW, qX, qY, qZ, qe, qf, qg, qh, qj, qk, ql, qm, qn, qo, qp, qq, qt, qu, qv, ev, qw, qy, qz, zA, zB, zC, zD, zE, zF, zG, zH, zI, zJ, TE.sv, zK, zL, zM, ↓reduceIte, reduceCtorEq, Value.oneCell', Nat.reduceEqDiff, Nat.reduceAdd, Nat.reduceLT, Nat.reduceBEq, Nat.reduceSub, Nat.reduceLeDiff, zP, zQ, zR, zS, zT, zU, zV, zW, zX, zY, zZ, za, zb, zc, zd, ze, zf, zg, zh, zi, zj, zk, zl, zm, zn, zo, zp, zq, zr, zt, zu, zw, zx, zy, zz, cE, jA, jB, cD, cO, jC, jD, jE, jF, jG, jH, jI, jJ, jK, jL, jM, jN, jO, jP, jQ, jR, jS, jT, jU, jV, jW, jX, jY, hP, hk, res26, kp26, mC1, mC0, rowTold, rowMoment, rowItem, rowOther, toldF, It.zero, anS, woE, woS, winE, rowE, itS, deadOf, hn0, hn1, Int.natCast_nonneg, hil', hsub, hoc'])
          obtain ⟨Y, hY⟩ : ∃ Y, Y = putF X i true ⟨x.key, x.flags, x.val, x.exp, x.cas, x.last, true, false⟩ := ⟨_, rfl⟩
          have hYi : Y.1.items[i]? = some Y.2 := by rw [hY]; exact putF_get X i _ _ hi his
          rw [show removeF X now ⟨op, mode, key, val, flags, exp, false, cas, true, delta, init, down, viv, vive, recache, true⟩ i true = (Y.1, ⟨9, Y.2, 0, false, false, false⟩) by rw [hY]; simp [removeF, otherB, goneF, hif, hoc]] at hC
          refine Run_put ⟨x.key, x.flags, x.val, x.exp, x.cas, x.last, true, false⟩ hY hG (X := X) (now := now) (c := ⟨op, mode, key, val, flags, exp, false, cas, true, delta, init, down, viv, vive, recache, true⟩) (most := most) (i := i) (is := true) rfl (.inr ⟨i, x, hx, rfl⟩) hi his hl rfl (by simp) ?_
          (refine VG_ok hctr (rs := res26) true 300 _ _ _ ?_; simp (maxSteps := 1000000) only [VG, jZ, ja, jd, je, VC, qA, qB, qC, qD, qE, qF, qG, qH, qI, qJ, qK, qL, qM, qN, qO, qP, qQ, qR, qS, qT, qU, qV, qW, qX, qY, qZ, qe, qf, qg, qh, qj, qk, ql, qm, qn, qo, qp, qq, qt, qu, qv, ev, qw, qy, qz, zA, zB, zC, zD, zE, zF, zG, zH, zI, zJ, TE.sv, zK, zL, zM, ↓reduceIte, reduceCtorEq, Value.oneCell', Nat.reduceEqDiff, Nat.reduceAdd, Nat.reduceLT, Nat.reduceBEq, Nat.reduceSub, Nat.reduceLeDiff, zP, zQ, zR, zS, zT, zU, zV, zW, zX, zY, zZ, za, zb, zc, zd, ze, zf, zg, zh, zi, zj, zk, zl, zm, zn, zo, zp, zq, zr, zt, zu, zw, zx, zy, zz, cE, jA, jB, cD, cO, jC, jD, jE, jF, jG, jH, jI, jJ, jK, jL, jM, jN, jO, jP, jQ, jR, jS, jT, jU, jV, jW, jX, jY, hP, hk, res26, kp26, mC1, mC0, rowTold, rowMoment, rowItem, rowOther, toldF, It.zero, anS, woE, woS, winE, rowE, itS, deadOf, hn0, hn1, Int.natCast_nonneg])
          exact opFin hC hres26 hn hρ h.low (vS := .rw 4 Y.1.items.length) rfl (.inr ⟨4, rfl, by decide, .inr ⟨i, Y.2, hYi, rfl⟩⟩) rfl
        · (refine VG_ok hctr (rs := res26) true 300 _ _ _ ?_; simp (maxSteps := 1000000) only [VG, jZ, ja, jd, je, VC, qA, qB, qC, qD, qE, qF, qG, qH, qI, qJ, qK, qL, qM, qN, qO, qP, qQ, qR, qS, qT, qU, qV, qW, qX, qY, qZ, qe, qf, qg, qh, qj, qk, ql, qm, qn, qo, qp, qq, qt, qu, qv, ev, qw, qy, qz, zA, zB, zC, zD, zE, zF, zG, zH, zI, zJ, TE.sv, zK, zL, zM, ↓reduceIte, reduceCtorEq, Value.oneCell', Nat.reduceEqDiff, Nat.reduceAdd, Nat.reduceLT, Nat.reduceBEq, Nat.reduceSub, Nat.reduceLeDiff, zP, zQ, zR, zS, zT, zU, zV, zW, zX, zY, zZ, za, zb, zc, zd, ze, zf, zg, zh, zi, zj, zk, zl, zm, zn, zo, zp, zq, zr, zt, zu, zw, zx, zy, zz, cE, jA, jB, cD, cO, jC, jD, jE, jF, jG, jH, jI, jJ, jK, jL, jM, jN, jO, jP, jQ, jR, jS, jT, jU, jV, jW, jX, jY, hP, hk, res26, kp26, mC1, mC0, rowTold, rowMoment, rowItem, rowOther, toldF, It.zero, anS, woE, woS, winE, rowE, itS, deadOf, hn0, hn1, Int.natCast_nonneg, hil', hsub, hoc'])
          obtain ⟨Y, hY⟩ : ∃ Y, Y = putF X i true ⟨x.key, x.flags, x.val, momF now exp, x.cas, x.last, true, false⟩ := ⟨_, rfl⟩
          have hYi : Y.1.items[i]? = some Y.2 := by rw [hY]; exact putF_get X i _ _ hi his
          rw [show removeF X now ⟨op, mode, key, val, flags, exp, true, cas, true, delta, init, down, viv, vive, recache, true⟩ i true = (Y.1, ⟨9, Y.2, 0, false, false, false⟩) by rw [hY]; simp [removeF, otherB, goneF, hif, hoc]] at hC
          refine Run_put ⟨x.key, x.flags, x.val, momF now exp, x.cas, x.last, true, false⟩ hY hG (X := X) (now := now) (c := ⟨op, mode, key, val, flags, exp, true, cas, true, delta, init, down, viv, vive, recache, true⟩) (most := most) (i := i) (is := true) rfl (.inr ⟨i, x, hx, rfl⟩) hi his hl rfl (by simp) ?_
          (refine VG_ok hctr (rs := res26) true 300 _ _ _ ?_; simp (maxSteps := 1000000) only [VG, jZ, ja, jd, je, VC, qA, qB, qC, qD, qE, qF, qG, qH, qI, qJ, qK, qL, qM, qN, qO, qP, qQ, qR, qS, qT, qU, qV, qW, qX, qY, qZ, qe, qf, qg, qh, qj, qk, ql, qm, qn, qo, qp, qq, qt, qu, qv, ev, qw, qy, qz, zA, zB, zC, zD, zE, zF, zG, zH, zI, zJ, TE.sv, zK, zL, zM, ↓reduceIte, reduceCtorEq, Value.oneCell', Nat.reduceEqDiff, Nat.reduceAdd, Nat.reduceLT, Nat.reduceBEq, Nat.reduceSub, Nat.reduceLeDiff, zP, zQ, zR, zS, zT, zU, zV, zW, zX, zY, zZ, za, zb, zc, zd, ze, zf, zg, zh, zi, zj, zk, zl, zm, zn, zo, zp, zq, zr, zt, zu, zw, zx, zy, zz, cE, jA, jB, cD, cO, jC, jD, jE, jF, jG, jH, jI, jJ, jK, jL, jM, jN, jO, jP, jQ, jR, jS, jT, jU, jV, jW, jX, jY, hP, hk, res26, kp26, mC1, mC0, rowTold, rowMoment, rowItem, rowOther, toldF, It.zero, anS, woE, woS, winE, rowE, itS, deadOf, hn0, hn1, Int.natCast_nonneg])
          exact opFin hC hres26 hn hρ h.low (vS := .rw 4 Y.1.items.length) rfl (.inr ⟨4, rfl, by decide, .inr ⟨i, Y.2, hYi, rfl⟩⟩) rfl
    · have hoc' : decide (x.cas = cas) = false := decide_eq_false hoc
      (refine VG_ok hctr (rs := res26) true 300 _ _ _ ?_; simp (maxSteps := 1000000) only [VG, jZ, ja, jd, je, VC, qA, qB, qC, qD, qE, qF, qG, qH, qI, qJ, qK, qL, qM, qN, qO, qP, qQ, qR, qS, qT, qU, qV, qW, qX, qY, qZ, qe, qf, qg, qh, qj, qk, ql, qm, qn, qo, qp, qq, qt, qu, qv, ev, qw, qy, qz, zA, zB, zC, zD, zE, zF, zG, zH, zI, zJ, TE.sv, zK, zL, zM, ↓reduceIte, reduceCtorEq, Value.oneCell', Nat.reduceEqDiff, Nat.reduceAdd, Nat.reduceLT, Nat.reduceBEq, Nat.reduceSub, Nat.reduceLeDiff, zP, zQ, zR, zS, zT, zU, zV, zW, zX, zY, zZ, za, zb, zc, zd, ze, zf, zg, zh, zi, zj, zk, zl, zm, zn, zo, zp, zq, zr, zt, zu, zw, zx, zy, zz, cE, jA, jB, cD, cO, jC, jD, jE, jF, jG, jH, jI, jJ, jK, jL, jM, jN, jO, jP, jQ, jR, jS, jT, jU, jV, jW, jX, jY, hP, hk, res26, kp26, mC1, mC0, rowTold, rowMoment, rowItem, rowOther, toldF, It.zero, anS, woE, woS, winE, rowE, itS, deadOf, hn0, hn1, Int.natCast_nonneg, hil', hoc'])
      rw [show removeF X now ⟨op, mode, key, val, flags, exp, hasExp, cas, true, delta, init, down, viv, vive, recache, inval⟩ i true = (X, toldF 4) by simp [removeF, otherB, hif, hoc]] at hC
      exact opFin hC hres26 hn hρ h.low (vS := .rw 1 X.items.length) rfl (.inr ⟨1, rfl, by decide, .inr ⟨i, x, hx, rfl⟩⟩) rfl
theorem remove_op (base g : Nat) (v : Value) (X : St) (now : Int) (c : Cd) (most : Int) (i : Nat) (is : Bool) (w : World) (h : WS base w g v X now c most i is) (hbase : base ≤ w.heap.size) (hi : i ≤ X.items.length) (his : is = true → i < X.items.length) (hl : X.items.length ≤ 100000000)
  (hn0 : 1 ≤ now) (hn1 : now ≤ 1099511627776) :
  Calls Tryd.prog 26 #[.pointer (some ⟨g, 0, none⟩)] w (OpR base g v (removeF X now c i is).1 now c most i is (removeF X now c i is).2 w) := by
  rcases c with ⟨op, mode, key, val, flags, exp, hasExp, cas, hasCas, delta, init, down, viv, vive, recache, inval⟩
  cases is with
  | false => exact remove_no _ _ _ _ _ _ _ _ _ _ _ _ _ _ _ _ _ _ _ _ _ _ _ _ h hbase hi his hl hn0 hn1
  | true => exact remove_win _ _ _ _ _ _ _ _ _ _ _ _ _ _ _ _ _ _ _ _ _ _ _ _ h hbase hi his hl hn0 hn1 _ (List.getElem?_eq_getElem (his rfl))
end Go.Proofs.YtfmpdbngpknmaaaDoor
/- The functions of package nums as rows of contracts for the model's walk. -/
namespace Go.Proofs.YtfmpdbngpknmaaaDoor
set_option linter.unusedSimpArgs false
set_option linter.unusedVariables false
open Go.RowKit

/-- the program's variables hold what they should, from block base on whatever was done -/
def EnvB (base : Nat) (w : World) : Prop := ∃ w0, Env w0 ∧ w0.heap.size ≤ base ∧ Below w0.heap.size w0 w
theorem EnvB.upd {base : Nat} {w w' : World} {S : Nat → Prop} (h : EnvB base w) (hb : base ≤ w.heap.size) (hu : Upd S w w') (hS : ∀ k, S k → base ≤ k) : EnvB base w' := by
  obtain ⟨w0, h1, h2, h3⟩ := h
  exact ⟨w0, h1, h2, h3.trans (below_of_upd hu (Nat.le_trans h2 hb) (fun k hk hs => by have := hS k hs; omega))⟩
theorem EnvB.env {base : Nat} {w : World} (h : EnvB base w) : Env w := by
  obtain ⟨w0, h1, _, h3⟩ := h
  exact h1.below h3
theorem EnvB.of {w : World} (h : Env w) : EnvB w.heap.size w := ⟨w, h, Nat.le_refl _, Below.refl _ _⟩
def EnvC (C : Cx) : Prop := ∀ w, Upd C.S C.w0 w → Env w

def rowText : List SV → Option (Prop × SV)
  | [.c (.i .u64 n)] => some (0 ≤ n ∧ n < 18446744073709551616, .c (.s (Lib.decDigits n.toNat)))
  | _ => none
def rowAdd : List SV → Option (Prop × SV)
  | [.c (.s l), .c (.i .u64 d)] => some (l.length ≤ 9223372036854775807 ∧ 0 ≤ d ∧ d < 18446744073709551616, .t [.c (.s ((addV l d).getD [])), .c (.b (addV l d).isSome)])
  | _ => none
def rowSub : List SV → Option (Prop × SV)
  | [.c (.s l), .c (.i .u64 d)] => some (l.length ≤ 9223372036854775807 ∧ 0 ≤ d ∧ d < 18446744073709551616, .t [.c (.s ((subV l d).getD [])), .c (.b (subV l d).isSome)])
  | _ => none
def rowParse : List SV → Option (Prop × SV)
  | [.c (.s l)] => some (l.length ≤ 9223372036854775807, .t [.c (.i .u64 (((parseV l).getD 0 : Nat) : Int)), .c (.b (parseV l).isSome)])
  | _ => none
/-- told, moment, item, other; numbers -/
def mC2 : Ctr := fun f en xs => match f with
  | 36 => rowText xs
  | 37 => rowAdd xs
  | 38 => rowSub xs
  | 39 => rowParse xs
  | _ => mC1 f en xs
section
variable {en : List EN} {ρ : Nat → RE} {w : World} {xs : List SV} {p : Prop} {v : SV}
theorem rowText_ok (h : rowText xs = some (p, v)) (hp : p) (he : Env w) : v.wf (· < en.length) ∧ Calls Tryd.prog 36 (xs.map (SV.den ρ)).toArray w fun e w' => e = .returned (v.den ρ) ∧ Below w.heap.size w w' := by
  unfold rowText at h
  split at h <;> simp only [Option.some.injEq, Prod.mk.injEq, reduceCtorEq] at h
  rename_i n
  obtain ⟨rfl, rfl⟩ := h
  obtain ⟨h0, h1⟩ := hp
  refine ⟨trivial, ?_⟩
  have := text n.toNat (by omega) w he.pow
  rw [show ((n.toNat : Nat) : Int) = n by omega] at this
  exact this
theorem rowAdd_ok (h : rowAdd xs = some (p, v)) (hp : p) (he : Env w) : v.wf (· < en.length) ∧ Calls Tryd.prog 37 (xs.map (SV.den ρ)).toArray w fun e w' => e = .returned (v.den ρ) ∧ Below w.heap.size w w' := by
  unfold rowAdd at h
  split at h <;> simp only [Option.some.injEq, Prod.mk.injEq, reduceCtorEq] at h
  rename_i l d
  obtain ⟨rfl, rfl⟩ := h
  obtain ⟨h0, h1, h2⟩ := hp
  refine ⟨by intro x hx; simp at hx; rcases hx with rfl | rfl <;> trivial, ?_⟩
  refine (nadd l h0 d h1 h2 w he).mono ?_
  rintro e w' ⟨rfl, hb⟩
  refine ⟨?_, hb⟩
  unfold addR addV
  cases parseV l <;> rfl
theorem rowSub_ok (h : rowSub xs = some (p, v)) (hp : p) (he : Env w) : v.wf (· < en.length) ∧ Calls Tryd.prog 38 (xs.map (SV.den ρ)).toArray w fun e w' => e = .returned (v.den ρ) ∧ Below w.heap.size w w' := by
  unfold rowSub at h
  split at h <;> simp only [Option.some.injEq, Prod.mk.injEq, reduceCtorEq] at h
  rename_i l d
  obtain ⟨rfl, rfl⟩ := h
  obtain ⟨h0, h1, h2⟩ := hp
  refine ⟨by intro x hx; simp at hx; rcases hx with rfl | rfl <;> trivial, ?_⟩
  refine (nsub l h0 d h1 h2 w he).mono ?_
  rintro e w' ⟨rfl, hb⟩
  refine ⟨?_, hb⟩
  unfold subR subV
  cases parseV l <;> rfl
theorem rowParse_ok (h : rowParse xs = some (p, v)) (hp : p) (he : Env w) : v.wf (· < en.length) ∧ Calls Tryd.prog 39 (xs.map (SV.den ρ)).toArray w fun e w' => e = .returned (v.den ρ) ∧ Below w.heap.size w w' := by
  unfold rowParse at h
  split at h <;> simp only [Option.some.injEq, Prod.mk.injEq, reduceCtorEq] at h
  rename_i l
  obtain ⟨rfl, rfl⟩ := h
  refine ⟨by intro x hx; simp at hx; rcases hx with rfl | rfl <;> trivial, ?_⟩
  exact parse l hp w he
end
theorem mC2_ok {C : Cx} (hP : C.P = Tryd.prog) (hE : EnvC C) : CtrOk C mC2 := by
  intro f en xs p v h hp ρ w hup hHp hHo hinj hwf
  unfold mC2 at h
  split at h
  · rw [hP]; exact ⟨fun args w => Tryd.call36 args w, rowText_ok h hp (hE w hup)⟩
  · rw [hP]; exact ⟨fun args w => Tryd.call37 args w, rowAdd_ok h hp (hE w hup)⟩
  · rw [hP]; exact ⟨fun args w => Tryd.call38 args w, rowSub_ok h hp (hE w hup)⟩
  · rw [hP]; exact ⟨fun args w => Tryd.call39 args w, rowParse_ok h hp (hE w hup)⟩
  · exact mC1_ok hP f en xs p v h hp ρ w hup hHp hHo hinj hwf
theorem addV_len {l v : List UInt8} {d : Int} (h : addV l d = some v) : v.length ≤ 20 := by
  unfold addV at h
  split at h
  · injection h with h; subst h
    have := u64_rng ((‹Nat› : Int) + d)
    exact dec_len_le _ (by omega)
  · cases h
theorem subV_len {l v : List UInt8} {d : Int} (h0 : 0 ≤ d) (h : subV l d = some v) : v.length ≤ 20 := by
  unfold subV at h
  split at h
  · rename_i n hn
    injection h with h; subst h
    have := parseV_lt hn
    exact dec_len_le _ (by omega)
  · cases h
end Go.Proofs.YtfmpdbngpknmaaaDoor
