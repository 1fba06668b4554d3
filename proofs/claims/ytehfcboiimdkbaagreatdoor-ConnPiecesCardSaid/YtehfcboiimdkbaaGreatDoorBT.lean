/- Functions of numbers and keys as rows of contracts. Printed by gen_e.py. -/
import Derived.Test.YtehfcboiimdkbaaGreatDoorBM
import Derived.Test.YtehfcboiimdkbaaGreatDoorBC
import Derived.Test.YtehfcboiimdkbaaGreatDoorBE
import Derived.Shelf.Strings.BuilderX
import Derived.Lib.Builder
import Derived.WalkKit
import Derived.Laws.Externs
import Derived.Lib.BufferMore
import Derived.Lib.BufferWrite
import Derived.Lib.FrozenHead
import Derived.Test.YtehfcboiimdkbaaGreatDoorCShelfK
namespace Go.Proofs.YtehfcboiimdkbaaGreatDoor
set_option linter.unusedSimpArgs false
set_option linter.unusedVariables false
open Go.RowKit
set_option maxRecDepth 100000
def EnvC (C : Cx) : Prop := ∀ w, Upd C.S C.w0 w → Env w
def rowParse : List SV → Option (Prop × SV)
  | [.c (.s l)] => some (l.length ≤ 9223372036854775807, .t [.c (.i .u64 (((parseV l).getD 0 : Nat) : Int)), .c (.b (parseV l).isSome)])
  | _ => none
def rowSigned : List SV → Option (Prop × SV)
  | [.c (.s l)] => some (l.length ≤ 9223372036854775807, .t [.c (.i .i64 ((signedV l).getD 0)), .c (.b (signedV l).isSome)])
  | _ => none
def rowKeyB : List SV → Option (Prop × SV)
  | [.c (.s l)] => some (l.length ≤ 9223372036854775807, .c (.b (keyB l)))
  | _ => none
def tC0 : Ctr := fun f _ xs => match f with
  | 48 => rowParse xs
  | 97 => rowSigned xs
  | 51 => rowKeyB xs
  | _ => none
section
variable {en : List EN} {ρ : Nat → RE} {w : World} {xs : List SV} {p : Prop} {v : SV}
theorem rowParse_ok (h : rowParse xs = some (p, v)) (hp : p) (he : Env w) : v.wf (· < en.length) ∧ Calls Tryz.prog 48 (xs.map (SV.den ρ)).toArray w fun e w' => e = .returned (v.den ρ) ∧ Below w.heap.size w w' := by
  unfold rowParse at h
  split at h <;> simp only [Option.some.injEq, Prod.mk.injEq, reduceCtorEq] at h
  rename_i l
  obtain ⟨rfl, rfl⟩ := h
  refine ⟨by intro x hx; simp at hx; rcases hx with rfl | rfl <;> trivial, ?_⟩
  exact parse l hp w he
theorem rowSigned_ok (h : rowSigned xs = some (p, v)) (hp : p) (he : Env w) : v.wf (· < en.length) ∧ Calls Tryz.prog 97 (xs.map (SV.den ρ)).toArray w fun e w' => e = .returned (v.den ρ) ∧ Below w.heap.size w w' := by
  unfold rowSigned at h
  split at h <;> simp only [Option.some.injEq, Prod.mk.injEq, reduceCtorEq] at h
  rename_i l
  obtain ⟨rfl, rfl⟩ := h
  refine ⟨by intro x hx; simp at hx; rcases hx with rfl | rfl <;> trivial, ?_⟩
  exact signed l hp w he
theorem rowKeyB_ok (h : rowKeyB xs = some (p, v)) (hp : p) : v.wf (· < en.length) ∧ Calls Tryz.prog 51 (xs.map (SV.den ρ)).toArray w fun e w' => e = .returned (v.den ρ) ∧ Below w.heap.size w w' := by
  unfold rowKeyB at h
  split at h <;> simp only [Option.some.injEq, Prod.mk.injEq, reduceCtorEq] at h
  rename_i l
  obtain ⟨rfl, rfl⟩ := h
  refine ⟨trivial, (key l hp w).mono ?_⟩
  rintro e w' ⟨rfl, rfl⟩
  exact ⟨rfl, Below.refl _ _⟩
end
theorem tC0_ok {C : Cx} (hP : C.P = Tryz.prog) (hE : EnvC C) : CtrOk C tC0 := by
  intro f en xs p v h hp ρ w hup hHp hHo hinj hwf
  unfold tC0 at h
  split at h
  · rw [hP]; exact ⟨fun args w => Tryz.call48 args w, rowParse_ok h hp (hE w hup)⟩
  · rw [hP]; exact ⟨fun args w => Tryz.call97 args w, rowSigned_ok h hp (hE w hup)⟩
  · rw [hP]; exact ⟨fun args w => Tryz.call51 args w, rowKeyB_ok h hp⟩
  · cases h
def reOf (g : Nat) : RE := ⟨g, [], [], 0, none⟩
theorem ent_blk {ρ : Nat → RE} {pr : Nat → Prop} {en : List EN} {w : World} {c : Nat} {t : TypeId} {cells : List SC} {mu : Bool} (hHp : Hp ρ pr en w) (hHo : Ho ρ pr en) (hc : pr c) (he : zD en c = some ⟨(t, 0, whole), cells, mu⟩) (ht : t ≠ DEAD) (hne : cells ≠ []) :
    Blk w (ρ c).blk t (dens ρ cells).toArray ∧ ptrOf ρ c 0 = .pointer (some ⟨(ρ c).blk, 0, none⟩) ∧ (ρ c).pre = [] ∧ (ρ c).post = [] ∧ (ρ c).nl = none := by
  have hnl : (ρ c).nl = none := Decidable.byContradiction fun hd => hne ((hHp c _ _ _ hc he).non hd)
  obtain ⟨_, h1, h2⟩ := hHo c _ _ _ hc he
  have := (hHp c _ _ _ hc he).heap ⟨ht, hnl⟩
  rw [h1, h2] at this
  refine ⟨by simpa [Blk] using this, by simp [ptrOf, h1], h1, h2, hnl⟩
end Go.Proofs.YtehfcboiimdkbaaGreatDoor
/- meta.bad, meta.seconds, meta.kind, walked. Printed by gen_ekind.py. -/
namespace Go.Proofs.YtehfcboiimdkbaaGreatDoor
set_option linter.unusedSimpArgs false
set_option linter.unusedVariables false
set_option linter.unusedSimpArgs false
set_option linter.unusedVariables false
set_option maxHeartbeats 8000000
open Go.RowKit
set_option maxRecDepth 100000
def ecS (c : Cd) : List SC := [.i .i64 c.op, .i .i64 c.mode, .s c.key, .s c.val, .i .u32 c.flags, .i .i64 c.exp, .b c.hasExp, .i .u64 c.cas, .b c.hasCas, .i .u64 c.delta, .i .u64 c.init, .b c.down, .b c.viv, .i .i64 c.vive, .i .i64 c.recache, .b c.inval]
def ecA (c : Cd) : Array Value := #[.int .i64 c.op, .int .i64 c.mode, .string ⟨c.key.toArray⟩, .string ⟨c.val.toArray⟩, .int .u32 c.flags, .int .i64 c.exp, .bool c.hasExp, .int .u64 c.cas, .bool c.hasCas, .int .u64 c.delta, .int .u64 c.init, .bool c.down, .bool c.viv, .int .i64 c.vive, .int .i64 c.recache, .bool c.inval]
def noS : SC := .v (.slice none 0 0)
def mqS (cv fl : SC) (r : Mq) : List SC := [.i .i64 r.kind, cv, .b r.quiet, .b false, .s r.reply, .s [], .i .i64 r.skip, .b r.close, .s r.name, fl, .s r.word]
theorem mbad_w (l : List UInt8) (n : Int) (w : World) (ρ : Nat → RE) : Calls Tryz.prog 35 #[.string ⟨l.toArray⟩, .int .i64 n] w fun e w' => e = .returned ((SV.g (mqS noS noS (badM l n))).den ρ) ∧ Below w.heap.size w w' := by
  refine calls_of_Run Tryz.func35 rfl kp35 (S := Non) (ρ := ρ) (en := []) [.c (.s l), .c (.i .i64 n)] Tryz.ntmps35 (At.nil _ _ _) (by simp [SV.wf, SC.wf]) (by simp) ?_
  intro C hC hP hk
  have hctr := noC_ok hP
  (refine VC_ok hctr (rs := res35) 200 _ _ _ ?_; simp (maxSteps := 1000000) only [VC, qA, qB, qC, qD, qE, qF, qG, qH, qI, qJ, qK, qL, qM, qN, qO, qP, qQ, qR, qS, qT, qU, qV, qW, qX, qY, qZ, qe, qf, qg, qh, qj, qk, ql, qm, qn, qo, qp, qq, q0t, qu, qv, ev, qw, qy, qz, zA, zB, zC, zD, zE, zF, zG, zH, zI, zJ, TE.sv, zK, zL, zM, ↓reduceIte, reduceCtorEq, Value.oneCell', Nat.reduceEqDiff, Nat.reduceAdd, Nat.reduceLT, Nat.reduceBEq, Nat.reduceSub, Nat.reduceLeDiff, zP, zQ, zR, zS, zT, zU, zV, zW, zX, zY, zZ, za, zb, zc, zd, ze, zf, zg, zh, zi, zj, zk, zl, zm, zn, zo, zp, zq, zr, zt, zu, zw, zx, zy, zz, cE, jA, jB, hap, killE, deadOf, rwE, cD, cO, jC, jD, jE, jF, jG, jH, jI, jJ, jK, jL, jM, jN, jO, jP, jQ, jR, jS, jT, jU, jV, jW, jX, jY, hP, hk, res35, kp35, noC])
  exact Fin_ro (v := .g (mqS noS noS (badM l n))) hC hres35 rfl (by simp [SV.wf, wfs, SC.wf, mqS, noS])
theorem msecs_w (l : List UInt8) (hl : l.length ≤ 9223372036854775807) (w : World) (hE : Env w) : Calls Tryz.prog 91 #[.string ⟨l.toArray⟩] w fun e w' => e = .returned (.tuple #[.int .i64 ((signedV l).getD 0), .bool (secF l).2]) ∧ Below w.heap.size w w' := by
  refine calls_of_Run Tryz.func91 rfl kp91 (S := Non) (ρ := fun _ => ⟨0, [], [], 0, none⟩) (en := []) [.c (.s l)] Tryz.ntmps91 (At.nil _ _ _) (by simp [SV.wf, SC.wf]) (by simp) ?_
  intro C hC hP hk
  have hctr := tC0_ok hP (fun w' hu => by rw [hC] at hu; exact hE.below hu.to_below)
  have fin : ∀ b, b = (secF l).2 → Fin C res91 (.t [.c (.i .i64 ((signedV l).getD 0)), .c (.b b)]) [] := fun b hb => Fin_ro (v := .t [.c (.i .i64 ((signedV l).getD 0)), .c (.b (secF l).2)]) hC hres91 (by rw [hb]) (by simp [SV.wf, TE.wf, SC.wf])
  cases hv : signedV l with
  | none =>
    rw [hv] at fin
    (refine VT_ok hctr (rs := res91) true 200 _ _ _ ?_; simp (maxSteps := 1000000) only [VT, jf, jg, jZ, ja, jd, je, VC, qA, qB, qC, qD, qE, qF, qG, qH, qI, qJ, qK, qL, qM, qN, qO, qP, qQ, qR, qS, qT, qU, qV, qW, qX, qY, qZ, qe, qf, qg, qh, qj, qk, ql, qm, qn, qo, qp, qq, q0t, qu, qv, ev, qw, qy, qz, zA, zB, zC, zD, zE, zF, zG, zH, zI, zJ, TE.sv, zK, zL, zM, ↓reduceIte, reduceCtorEq, Value.oneCell', Nat.reduceEqDiff, Nat.reduceAdd, Nat.reduceLT, Nat.reduceBEq, Nat.reduceSub, Nat.reduceLeDiff, zP, zQ, zR, zS, zT, zU, zV, zW, zX, zY, zZ, za, zb, zc, zd, ze, zf, zg, zh, zi, zj, zk, zl, zm, zn, zo, zp, zq, zr, zt, zu, zw, zx, zy, zz, cE, jA, jB, hap, killE, deadOf, rwE, cD, cO, jC, jD, jE, jF, jG, jH, jI, jJ, jK, jL, jM, jN, jO, jP, jQ, jR, jS, jT, jU, jV, jW, jX, jY, hP, hk, res91, kp91, tC0, rowSigned, hv, Option.getD_none, Option.isSome_none])
    exact ⟨hl, fin _ (by unfold secF; rw [hv])⟩
  | some n =>
    rw [hv] at fin
    simp only [secF, hv, Option.getD_some] at fin
    by_cases h1 : -1099511627776 ≤ n
    · have c1 : decide (-1099511627776 ≤ n) = true := decide_eq_true h1
      (refine VT_ok hctr (rs := res91) true 200 _ _ _ ?_; simp (maxSteps := 1000000) only [VT, jf, jg, jZ, ja, jd, je, VC, qA, qB, qC, qD, qE, qF, qG, qH, qI, qJ, qK, qL, qM, qN, qO, qP, qQ, qR, qS, qT, qU, qV, qW, qX, qY, qZ, qe, qf, qg, qh, qj, qk, ql, qm, qn, qo, qp, qq, q0t, qu, qv, ev, qw, qy, qz, zA, zB, zC, zD, zE, zF, zG, zH, zI, zJ, TE.sv, zK, zL, zM, ↓reduceIte, reduceCtorEq, Value.oneCell', Nat.reduceEqDiff, Nat.reduceAdd, Nat.reduceLT, Nat.reduceBEq, Nat.reduceSub, Nat.reduceLeDiff, zP, zQ, zR, zS, zT, zU, zV, zW, zX, zY, zZ, za, zb, zc, zd, ze, zf, zg, zh, zi, zj, zk, zl, zm, zn, zo, zp, zq, zr, zt, zu, zw, zx, zy, zz, cE, jA, jB, hap, killE, deadOf, rwE, cD, cO, jC, jD, jE, jF, jG, jH, jI, jJ, jK, jL, jM, jN, jO, jP, jQ, jR, jS, jT, jU, jV, jW, jX, jY, hP, hk, res91, kp91, tC0, rowSigned, hv, Option.getD_some, Option.isSome_some, c1])
      exact ⟨hl, fin _ (by unfold nearB; rw [c1]; simp)⟩
    · have c1 : decide (-1099511627776 ≤ n) = false := decide_eq_false h1
      (refine VT_ok hctr (rs := res91) true 200 _ _ _ ?_; simp (maxSteps := 1000000) only [VT, jf, jg, jZ, ja, jd, je, VC, qA, qB, qC, qD, qE, qF, qG, qH, qI, qJ, qK, qL, qM, qN, qO, qP, qQ, qR, qS, qT, qU, qV, qW, qX, qY, qZ, qe, qf, qg, qh, qj, qk, ql, qm, qn, qo, qp, qq, q0t, qu, qv, ev, qw, qy, qz, zA, zB, zC, zD, zE, zF, zG, zH, zI, zJ, TE.sv, zK, zL, zM, ↓reduceIte, reduceCtorEq, Value.oneCell', Nat.reduceEqDiff, Nat.reduceAdd, Nat.reduceLT, Nat.reduceBEq, Nat.reduceSub, Nat.reduceLeDiff, zP, zQ, zR, zS, zT, zU, zV, zW, zX, zY, zZ, za, zb, zc, zd, ze, zf, zg, zh, zi, zj, zk, zl, zm, zn, zo, zp, zq, zr, zt, zu, zw, zx, zy, zz, cE, jA, jB, hap, killE, deadOf, rwE, cD, cO, jC, jD, jE, jF, jG, jH, jI, jJ, jK, jL, jM, jN, jO, jP, jQ, jR, jS, jT, jU, jV, jW, jX, jY, hP, hk, res91, kp91, tC0, rowSigned, hv, Option.getD_some, Option.isSome_some, c1])
      exact ⟨hl, fin _ (by unfold nearB; rw [c1]; simp)⟩
theorem mkind_w (name : List UInt8) (w : World) (ρ : Nat → RE) : Calls Tryz.prog 37 #[.string ⟨name.toArray⟩] w fun e w' => e = .returned ((SV.t [.g (ecS (kindM name).1), .c (.s (kindM name).2)]).den ρ) ∧ Below w.heap.size w w' := by
  refine calls_of_Run Tryz.func37 rfl kp37 (S := Non) (ρ := ρ) (en := []) [.c (.s name)] Tryz.ntmps37 (At.nil _ _ _) (by simp [SV.wf, SC.wf]) (by simp) ?_
  intro C hC hP hk
  have hctr := noC_ok hP
  have fin : ∀ v en, v = SV.t [.g (ecS (kindM name).1), .c (.s (kindM name).2)] → Fin C res37 v en := fun v en hv => by subst hv; exact Fin_ro (v := .t [.g (ecS (kindM name).1), .c (.s (kindM name).2)]) hC hres37 rfl (by simp [SV.wf, TE.wf, wfs, SC.wf, ecS])
  by_cases h0 : name = m_me
  · subst h0
    simp only [m_me] at fin ⊢
    (refine VT_ok hctr (rs := res37) true 200 _ _ _ ?_; simp (maxSteps := 1000000) only [VT, jf, jg, jZ, ja, jd, je, VC, qA, qB, qC, qD, qE, qF, qG, qH, qI, qJ, qK, qL, qM, qN, qO, qP, qQ, qR, qS, qT, qU, qV, qW, qX, qY, qZ, qe, qf, qg, qh, qj, qk, ql, qm, qn, qo, qp, qq, q0t, qu, qv, ev, qw, qy, qz, zA, zB, zC, zD, zE, zF, zG, zH, zI, zJ, TE.sv, zK, zL, zM, ↓reduceIte, reduceCtorEq, Value.oneCell', Nat.reduceEqDiff, Nat.reduceAdd, Nat.reduceLT, Nat.reduceBEq, Nat.reduceSub, Nat.reduceLeDiff, zP, zQ, zR, zS, zT, zU, zV, zW, zX, zY, zZ, za, zb, zc, zd, ze, zf, zg, zh, zi, zj, zk, zl, zm, zn, zo, zp, zq, zr, zt, zu, zw, zx, zy, zz, cE, jA, jB, hap, killE, deadOf, rwE, cD, cO, jC, jD, jE, jF, jG, jH, jI, jJ, jK, jL, jM, jN, jO, jP, jQ, jR, jS, jT, jU, jV, jW, jX, jY, hP, hk, res37, kp37, noC, lb1, lb2, lb3, lb4, u8b, UInt8.reduceToNat])
    exact fin _ _ rfl
  have c0 : (name == [109, 101]) = false := by refine Bool.eq_false_iff.2 fun e => h0 (eq_of_beq e)
  by_cases h1 : name = m_mg
  · subst h1
    simp only [m_mg] at fin ⊢
    (refine VT_ok hctr (rs := res37) true 200 _ _ _ ?_; simp (maxSteps := 1000000) only [VT, jf, jg, jZ, ja, jd, je, VC, qA, qB, qC, qD, qE, qF, qG, qH, qI, qJ, qK, qL, qM, qN, qO, qP, qQ, qR, qS, qT, qU, qV, qW, qX, qY, qZ, qe, qf, qg, qh, qj, qk, ql, qm, qn, qo, qp, qq, q0t, qu, qv, ev, qw, qy, qz, zA, zB, zC, zD, zE, zF, zG, zH, zI, zJ, TE.sv, zK, zL, zM, ↓reduceIte, reduceCtorEq, Value.oneCell', Nat.reduceEqDiff, Nat.reduceAdd, Nat.reduceLT, Nat.reduceBEq, Nat.reduceSub, Nat.reduceLeDiff, zP, zQ, zR, zS, zT, zU, zV, zW, zX, zY, zZ, za, zb, zc, zd, ze, zf, zg, zh, zi, zj, zk, zl, zm, zn, zo, zp, zq, zr, zt, zu, zw, zx, zy, zz, cE, jA, jB, hap, killE, deadOf, rwE, cD, cO, jC, jD, jE, jF, jG, jH, jI, jJ, jK, jL, jM, jN, jO, jP, jQ, jR, jS, jT, jU, jV, jW, jX, jY, hP, hk, res37, kp37, noC, lb1, lb2, lb3, lb4, u8b, UInt8.reduceToNat])
    exact fin _ _ rfl
  have c1 : (name == [109, 103]) = false := by refine Bool.eq_false_iff.2 fun e => h1 (eq_of_beq e)
  by_cases h2 : name = m_ms
  · subst h2
    simp only [m_ms] at fin ⊢
    (refine VT_ok hctr (rs := res37) true 200 _ _ _ ?_; simp (maxSteps := 1000000) only [VT, jf, jg, jZ, ja, jd, je, VC, qA, qB, qC, qD, qE, qF, qG, qH, qI, qJ, qK, qL, qM, qN, qO, qP, qQ, qR, qS, qT, qU, qV, qW, qX, qY, qZ, qe, qf, qg, qh, qj, qk, ql, qm, qn, qo, qp, qq, q0t, qu, qv, ev, qw, qy, qz, zA, zB, zC, zD, zE, zF, zG, zH, zI, zJ, TE.sv, zK, zL, zM, ↓reduceIte, reduceCtorEq, Value.oneCell', Nat.reduceEqDiff, Nat.reduceAdd, Nat.reduceLT, Nat.reduceBEq, Nat.reduceSub, Nat.reduceLeDiff, zP, zQ, zR, zS, zT, zU, zV, zW, zX, zY, zZ, za, zb, zc, zd, ze, zf, zg, zh, zi, zj, zk, zl, zm, zn, zo, zp, zq, zr, zt, zu, zw, zx, zy, zz, cE, jA, jB, hap, killE, deadOf, rwE, cD, cO, jC, jD, jE, jF, jG, jH, jI, jJ, jK, jL, jM, jN, jO, jP, jQ, jR, jS, jT, jU, jV, jW, jX, jY, hP, hk, res37, kp37, noC, lb1, lb2, lb3, lb4, u8b, UInt8.reduceToNat])
    exact fin _ _ rfl
  have c2 : (name == [109, 115]) = false := by refine Bool.eq_false_iff.2 fun e => h2 (eq_of_beq e)
  by_cases h3 : name = m_md
  · subst h3
    simp only [m_md] at fin ⊢
    (refine VT_ok hctr (rs := res37) true 200 _ _ _ ?_; simp (maxSteps := 1000000) only [VT, jf, jg, jZ, ja, jd, je, VC, qA, qB, qC, qD, qE, qF, qG, qH, qI, qJ, qK, qL, qM, qN, qO, qP, qQ, qR, qS, qT, qU, qV, qW, qX, qY, qZ, qe, qf, qg, qh, qj, qk, ql, qm, qn, qo, qp, qq, q0t, qu, qv, ev, qw, qy, qz, zA, zB, zC, zD, zE, zF, zG, zH, zI, zJ, TE.sv, zK, zL, zM, ↓reduceIte, reduceCtorEq, Value.oneCell', Nat.reduceEqDiff, Nat.reduceAdd, Nat.reduceLT, Nat.reduceBEq, Nat.reduceSub, Nat.reduceLeDiff, zP, zQ, zR, zS, zT, zU, zV, zW, zX, zY, zZ, za, zb, zc, zd, ze, zf, zg, zh, zi, zj, zk, zl, zm, zn, zo, zp, zq, zr, zt, zu, zw, zx, zy, zz, cE, jA, jB, hap, killE, deadOf, rwE, cD, cO, jC, jD, jE, jF, jG, jH, jI, jJ, jK, jL, jM, jN, jO, jP, jQ, jR, jS, jT, jU, jV, jW, jX, jY, hP, hk, res37, kp37, noC, lb1, lb2, lb3, lb4, u8b, UInt8.reduceToNat])
    exact fin _ _ rfl
  have c3 : (name == [109, 100]) = false := by refine Bool.eq_false_iff.2 fun e => h3 (eq_of_beq e)
  by_cases h4 : name = m_ma
  · subst h4
    simp only [m_ma] at fin ⊢
    (refine VT_ok hctr (rs := res37) true 200 _ _ _ ?_; simp (maxSteps := 1000000) only [VT, jf, jg, jZ, ja, jd, je, VC, qA, qB, qC, qD, qE, qF, qG, qH, qI, qJ, qK, qL, qM, qN, qO, qP, qQ, qR, qS, qT, qU, qV, qW, qX, qY, qZ, qe, qf, qg, qh, qj, qk, ql, qm, qn, qo, qp, qq, q0t, qu, qv, ev, qw, qy, qz, zA, zB, zC, zD, zE, zF, zG, zH, zI, zJ, TE.sv, zK, zL, zM, ↓reduceIte, reduceCtorEq, Value.oneCell', Nat.reduceEqDiff, Nat.reduceAdd, Nat.reduceLT, Nat.reduceBEq, Nat.reduceSub, Nat.reduceLeDiff, zP, zQ, zR, zS, zT, zU, zV, zW, zX, zY, zZ, za, zb, zc, zd, ze, zf, zg, zh, zi, zj, zk, zl, zm, zn, zo, zp, zq, zr, zt, zu, zw, zx, zy, zz, cE, jA, jB, hap, killE, deadOf, rwE, cD, cO, jC, jD, jE, jF, jG, jH, jI, jJ, jK, jL, jM, jN, jO, jP, jQ, jR, jS, jT, jU, jV, jW, jX, jY, hP, hk, res37, kp37, noC, lb1, lb2, lb3, lb4, u8b, UInt8.reduceToNat])
    exact fin _ _ rfl
  have c4 : (name == [109, 97]) = false := by refine Bool.eq_false_iff.2 fun e => h4 (eq_of_beq e)
  (refine VT_ok hctr (rs := res37) true 200 _ _ _ ?_; simp (maxSteps := 1000000) only [VT, jf, jg, jZ, ja, jd, je, VC, qA, qB, qC, qD, qE, qF, qG, qH, qI, qJ, qK, qL, qM, qN, qO, qP, qQ, qR, qS, qT, qU, qV, qW, qX, qY, qZ, qe, qf, qg, qh, qj, qk, ql, qm, qn, qo, qp, qq, q0t, qu, qv, ev, qw, qy, qz, zA, zB, zC, zD, zE, zF, zG, zH, zI, zJ, TE.sv, zK, zL, zM, ↓reduceIte, reduceCtorEq, Value.oneCell', Nat.reduceEqDiff, Nat.reduceAdd, Nat.reduceLT, Nat.reduceBEq, Nat.reduceSub, Nat.reduceLeDiff, zP, zQ, zR, zS, zT, zU, zV, zW, zX, zY, zZ, za, zb, zc, zd, ze, zf, zg, zh, zi, zj, zk, zl, zm, zn, zo, zp, zq, zr, zt, zu, zw, zx, zy, zz, cE, jA, jB, hap, killE, deadOf, rwE, cD, cO, jC, jD, jE, jF, jG, jH, jI, jJ, jK, jL, jM, jN, jO, jP, jQ, jR, jS, jT, jU, jV, jW, jX, jY, hP, hk, res37, kp37, noC, c0, c1, c2, c3, c4])
  exact fin _ _ (by simp only [kindM, h0, h1, h2, h3, h4, if_false]; rfl)
end Go.Proofs.YtehfcboiimdkbaaGreatDoor
/- strings.Builder: copyCheck, walked. -/
namespace Go.Proofs.YtehfcboiimdkbaaGreatDoor
set_option linter.unusedSimpArgs false
set_option linter.unusedVariables false
open Go.RowKit
set_option maxRecDepth 100000
theorem sizeBld : (Tryz.prog.info? 107).map (·.size) = some 2 := by kernel_rfl
theorem liesBld : liesAt Tryz.prog Tryz.prog.depth 107 (2 / Tryz.prog.cellsOf 107) 0 107 1 = true := by kernel_rfl
set_option maxHeartbeats 1000000 in
theorem cc_used (b : Nat) (w : World) (h0 : w.cell? ⟨b, 0, none⟩ = some (.pointer (some ⟨b, 0, none⟩))) :
    Calls Tryz.prog 95 #[.pointer (some ⟨b, 0, none⟩)] w fun e w' => e = .returned (.tuple #[]) ∧ w' = w := by
  obtain ⟨j, hj, _⟩ := Option.map_eq_some_iff.1 sizeBld
  go_enter Tryz.func95, Tryz.ntmps95
  go_wp2
  rw [Lib.run_neq_ptr_same w _ Tryz.underlying105 hj]
  go_wp2
  go_end0
  exact ⟨rfl, rfl⟩
set_option maxHeartbeats 1000000 in
theorem cc_fresh (b : Nat) (w : World) (h0 : w.cell? ⟨b, 0, none⟩ = some (.pointer none)) (hsh : w.shape? b = some (107, 2)) (hfz : w.frozen? ⟨b, 0, none⟩ = false) :
    Calls Tryz.prog 95 #[.pointer (some ⟨b, 0, none⟩)] w fun e w' => e = .returned (.tuple #[]) ∧ w' = w.setCell ⟨b, 0, none⟩ (.pointer (some ⟨b, 0, none⟩)) := by
  obtain ⟨j, hj, hjs⟩ := Option.map_eq_some_iff.1 sizeBld
  go_enter Tryz.func95, Tryz.ntmps95
  go_wp2
  rw [Lib.run_to_unsafe w ⟨b, 0, none⟩ Tryz.underlying105 Tryz.underlying135 hj (by rw [hjs]; decide) hsh (Nat.zero_lt_succ 1)]
  simp only [Result.andThen]
  rw [Oper.upon_value]
  go_wp2
  rw [run_callFunc_extern Tryz.func106 (by kernel_rfl) (by kernel_rfl) (by kernel_rfl) (e := Extern.AbiNoEscape.same) (by kernel_rfl)]
  rw [Lib.run_noEscape]
  simp only [Result.andThen]
  rw [Oper.upon_value]
  go_wp2
  rw [Lib.run_from_unsafe w ⟨b, 0, none⟩ Tryz.underlying135 Tryz.underlying105 hj hsh liesBld]
  simp only [Result.andThen]
  rw [Oper.upon_value]
  go_wp2
  go_end0
  exact ⟨rfl, rfl⟩
def bldE (X Y : SC) : EN := ⟨(107, 0, whole), [X, Y], true⟩
theorem set_same {en : List EN} {c : Nat} {e : EN} (h : zD en c = some e) : zE en c e = en := by
  rw [setN_eq]
  rw [nthS_eq] at h
  obtain ⟨hcl, he⟩ := List.getElem?_eq_some_iff.1 h
  rw [← he, List.set_getElem_self]
theorem cc_h {C : Cx} {nE c : Nat} {mk : Nat → Prop} {en : List EN} {X Y : SC} (hP : C.P = Tryz.prog) (hmk : ∀ q, ¬ mk q) (hc : zD en c = some (bldE X Y)) (hX : X = .v (.pointer none) ∨ X = .p c 0) :
    HCall C nE mk en (zE en c (bldE (.p c 0) Y)) 95 [.c (.p c 0)] (.t []) := by
  refine ⟨fun args w => by rw [hP]; exact Tryz.call95 args w, ?_⟩
  intro ρ pr w hpr hmn hw hex hx
  have hcp : pr c := hx (.c (.p c 0)) (by simp)
  have hpl : ∀ q, pr q → q < en.length := fun q hq => by
    have := hex q hq
    rw [nthS_eq] at this
    rcases Nat.lt_or_ge q en.length with h | h
    · exact h
    · exact absurd (List.getElem?_eq_none h) this
  obtain ⟨k1, k2, k3, k4, k5⟩ := ent_blk hw.hp hw.ho hcp hc (by decide) (by simp)
  have hpt : (SC.p c 0).den ρ = .pointer (some ⟨(ρ c).blk, 0, none⟩) := k2
  have e0 : (List.map (SV.den ρ) [.c (.p c 0)]).toArray = #[.pointer (some ⟨(ρ c).blk, 0, none⟩)] := by simp [SV.den, hpt]
  rw [e0, hP]
  have hset : ∀ w', Hw C ρ pr (zE en c (bldE (.p c 0) Y)) w' → Hw C ρ (fun q => pr q ∨ mk q) (zE en c (bldE (.p c 0) Y)) w' := fun w' h => h.iff fun q => ⟨fun h => h.resolve_right (hmk q), .inl⟩
  have hres : ∀ ρ' : Nat → RE, Ending.returned (.tuple #[]) = .returned ((SV.t []).den ρ') := fun _ => rfl
  rcases hX with rfl | rfl
  · have hb : w.heap[(ρ c).blk]? = some (.cells #[.pointer none, Y.den ρ] 107 (0, 0)) := by simpa [Blk, dens, SC.den] using k1
    refine (cc_fresh (ρ c).blk w (by simp [World.cell?, hb]) (by simp [World.shape?, hb]) (Lib.frozen_of_heap hb 0)).mono ?_
    rintro e w' ⟨rfl, rfl⟩
    refine ⟨ρ, fun _ _ => rfl, hres ρ, (by intro y hy; simp at hy), hset _ ?_, fun q hq => absurd hq (hmk q)⟩
    have hg := Lib.grownBy_setCell w (ρ c).blk 0 (.pointer (some ⟨(ρ c).blk, 0, none⟩))
    refine Hw.turn hw hpl hcp hc (by decide) k5 ⟨hg.os, hg.tape, hg.output, hg.size, fun q hq hne => hg.block q hq (fun h => hne (by have := Option.some.inj h; exact this))⟩ ?_ ?_
    · rw [Lib.heap_setCell_same hb, k3, k4]
      simp [dens, hpt]
    · intro y hy
      simp only [List.mem_cons, List.not_mem_nil, or_false] at hy
      rcases hy with rfl | rfl
      · exact hcp
      · exact (hw.hp c _ _ _ hcp hc).wf _ (by simp)
  · have hb : w.heap[(ρ c).blk]? = some (.cells #[.pointer (some ⟨(ρ c).blk, 0, none⟩), Y.den ρ] 107 (0, 0)) := by simpa [Blk, dens, hpt] using k1
    refine (cc_used (ρ c).blk w (by simp [World.cell?, hb])).mono ?_
    rintro e w' ⟨rfl, rfl⟩
    refine ⟨ρ, fun _ _ => rfl, hres ρ, (by intro y hy; simp at hy), hset _ ?_, fun q hq => absurd hq (hmk q)⟩
    rw [set_same hc]; exact hw
end Go.Proofs.YtehfcboiimdkbaaGreatDoor
/- strings.Builder: WriteByte, walked; as a call of a walk. Printed by gen_ewb.py. -/
namespace Go.Proofs.YtehfcboiimdkbaaGreatDoor
set_option linter.unusedSimpArgs false
set_option linter.unusedVariables false
set_option linter.unusedSimpArgs false
set_option linter.unusedVariables false
set_option maxHeartbeats 8000000
open Go.RowKit
set_option maxRecDepth 100000
theorem u8d : ¬ ((5 : Nat) = DEAD) := by decide
theorem infoU8b : (Tryz.prog.info? 5).map (fun i => (i.zero, i.size, i.bytes)) = some (some (.int .u8 0), 1, 1) := by kernel_rfl
def rwB (l : List UInt8) : EN := rwE 5 1 l.length (bytesC l)
def RowB (w : World) (r : RE) (l : List UInt8) : Prop := rowP 1 l.length l.length r ∧ (r.nl = none → w.heap[r.blk]? = some (.cells (r.pre ++ Lib.strCells ⟨l.toArray⟩ ++ r.post).toArray 5 (0, 0)))
theorem wb_w {w : World} {b : Nat} {X : SC} {r : RE} {l : List UInt8} {x : UInt8} (hX : X = .v (.pointer none) ∨ X = .p 0 0) (hb : w.heap[b]? = some (.cells #[X.den (fun _ => reOf b), rwOf r l.length] 107 (0, 0))) (hr : RowB w r l) (hne : r.nl = none → r.blk ≠ b) (hnl : r.nl ≠ none → r.blk = w.heap.size) (hl : l.length + 1 ≤ 100000000000) :
    Calls Tryz.prog 69 #[.pointer (some ⟨b, 0, none⟩), .int .u8 (x.toNat : Int)] w fun e w' => e = .returned .nilIface ∧ Upd (fun k => k = b ∨ k = r.blk) w w' ∧
      ∃ r', RowB w' r' (l ++ [x]) ∧ w'.heap[b]? = some (.cells #[.pointer (some ⟨b, 0, none⟩), rwOf r' (l ++ [x]).length] 107 (0, 0)) ∧ (r'.nl = none → (r.nl = none ∧ r'.blk = r.blk) ∨ w.heap.size ≤ r'.blk) ∧ (r'.nl = none → r'.blk ≠ b) ∧ (r'.blk = b ∨ r'.blk = r.blk ∨ w.heap.size ≤ r'.blk) := by
  obtain ⟨ρ0, hρ0⟩ : ∃ ρ0 : Nat → RE, ρ0 = fun c => if c = 0 then reOf b else r := ⟨_, rfl⟩
  have zP : ρ0 0 = reOf b := by rw [hρ0]; rfl
  have zQ : ρ0 1 = r := by rw [hρ0]; rfl
  have hXd : X.den ρ0 = X.den (fun _ => reOf b) := by
    rcases hX with rfl | rfl
    · rfl
    · simp [SC.den, ptrOf, zP]
  have hat : At (fun k => k = b ∨ k = r.blk) ρ0 [bldE X (.rw 1 l.length), rwB l] w := by
    have cs : ∀ c, c < 2 → c = 0 ∨ c = 1 := fun c hc => by omega
    refine ⟨?_, ?_, ?_, ?_⟩
    · intro c ty cells mu hc he
      rcases cs c hc with rfl | rfl
      · simp only [bldE, zD, Option.some.injEq, EN.mk.injEq] at he
        obtain ⟨rfl, rfl, rfl⟩ := he
        refine ⟨fun _ => ?_, ?_, fun hd => absurd hd (by decide), fun hn => absurd (by rw [zP]; rfl) hn⟩
        · rw [zP]
          have e2 : dens ρ0 [X, .rw 1 l.length] = [X.den (fun _ => reOf b), rwOf r l.length] := by
            simp only [dens, List.map_cons, List.map_nil, hXd]
            rw [show (SC.rw 1 l.length).den ρ0 = rwOf (ρ0 1) l.length from rfl, zQ]
          rw [e2]; exact hb
        · intro y hy
          simp only [List.mem_cons, List.not_mem_nil, or_false] at hy
          rcases hy with rfl | rfl
          · rcases hX with rfl | rfl
            · trivial
            · exact Nat.zero_lt_two
          · exact Nat.one_lt_two
      · simp only [rwB, rwE, zD, Option.some.injEq, EN.mk.injEq] at he
        obtain ⟨rfl, rfl, rfl⟩ := he
        refine ⟨fun hh => ?_, bytesC_wf _ _, fun hd => absurd (show (5 : Nat) = DEAD from hd) (by decide), fun hn => ?_⟩
        · rw [zQ] at hh ⊢
          rw [bytesC_den]; exact hr.2 hh.2
        · rw [zQ] at hn
          obtain ⟨_, h | h⟩ := hr.1
          · exact absurd h.1 hn
          · have : l = [] := List.eq_nil_of_length_eq_zero h.2.1
            rw [this]; rfl
    · intro c ty cells mu hc he
      rcases cs c hc with rfl | rfl
      · simp only [bldE, zD, Option.some.injEq, EN.mk.injEq] at he
        obtain ⟨rfl, rfl, rfl⟩ := he
        rw [zP]; exact ⟨rfl, rfl, rfl⟩
      · simp only [rwB, rwE, zD, Option.some.injEq, EN.mk.injEq] at he
        obtain ⟨rfl, rfl, rfl⟩ := he
        rw [zQ, bytesC_len]
        refine ⟨?_, hr.1⟩
        obtain ⟨_, h | h⟩ := hr.1
        · show r.pre.length = 0; rw [h.2.1]; rfl
        · show r.pre.length = 0; rw [h.2.2]; rfl
    · intro c d hc hd h1 h2 h3
      have dl : ∀ c, c < 2 → deadE (ρ0 c) (zD [bldE X (.rw 1 l.length), rwB l] c) = false → c = 1 → r.nl = none := fun c _ h e => by
        subst e
        rw [zQ] at h
        exact ((deadE_of (r := r) (en := [bldE X (.rw 1 l.length), rwB l]) (c := 1) rfl).1 h).2
      rcases cs c hc with rfl | rfl <;> rcases cs d hd with rfl | rfl
      · rfl
      · rw [zP, zQ] at h3
        exact absurd h3.symm (hne (dl 1 hd h2 rfl))
      · rw [zP, zQ] at h3
        exact absurd h3 (hne (dl 1 hc h1 rfl))
      · rfl
    · intro c ty cells hc he
      rcases cs c hc with rfl | rfl
      · rw [zP]; exact .inl rfl
      · rw [zQ]; exact .inr rfl
  have hargs : (List.map (SV.den ρ0) [.c (.p 0 0), .c (.i .u8 (x.toNat : Int))]).toArray = #[.pointer (some ⟨b, 0, none⟩), .int .u8 (x.toNat : Int)] := by
    simp [SV.den, SC.den, ptrOf, zP, reOf]
  rw [← hargs]
  refine calls_of_Run Tryz.func69 rfl kp69 [.c (.p 0 0), .c (.i .u8 (x.toNat : Int))] Tryz.ntmps69 hat (by intro x hx; simp only [List.mem_cons, List.not_mem_nil, or_false] at hx; rcases hx with rfl | rfl; exact Nat.zero_lt_two; trivial) (by simp) ?_
  intro C hC hP hk
  have hctr := noC_ok hP
  have hn0 : C.n0 = 2 := by rw [hC]; rfl
  (refine VT_ok hctr (rs := res69) true 300 _ _ _ ?_; simp (maxSteps := 1000000) only [VT, jf, jg, jZ, ja, jd, je, VC, qA, qB, qC, qD, qE, qF, qG, qH, qI, qJ, qK, qL, qM, qN, qO, qP, qQ, qR, qS, qT, qU, qV, qW, qX, qY, qZ, qe, qf, qg, qh, qj, qk, ql, qm, qn, qo, qp, qq, q0t, qu, qv, ev, qw, qy, qz, zA, zB, zC, zD, zE, zF, zG, zH, zI, zJ, TE.sv, zK, zL, zM, ↓reduceIte, reduceCtorEq, Value.oneCell', Nat.reduceEqDiff, Nat.reduceAdd, Nat.reduceLT, Nat.reduceBEq, Nat.reduceSub, Nat.reduceLeDiff, zP, zQ, zR, zS, zT, zU, zV, zW, zX, zY, zZ, za, zb, zc, zd, ze, zf, zg, zh, zi, zj, zk, zl, zm, zn, zo, zp, zq, zr, zt, zu, zw, zx, zy, zz, cE, jA, jB, hap, killE, deadOf, rwE, cD, cO, jC, jD, jE, jF, jG, jH, jI, jJ, jK, jL, jM, jN, jO, jP, jQ, jR, jS, jT, jU, jV, jW, jX, jY, hP, hk, res69, kp69, noC, bldE, rwB, rwE, cond_true, cond_false])
  refine Run_hcall rfl (.t []) [bldE (.p 0 0) (.rw 1 l.length), rwB l] (cc_h (c := 0) (X := X) (Y := .rw 1 l.length) hP (fun q hq => by simp only [zG] at hq; omega) rfl hX) (by simp [zG]) (by simp) ?_
  (refine VT_ok hctr (rs := res69) true 300 _ _ _ ?_; simp (maxSteps := 1000000) only [VT, jf, jg, jZ, ja, jd, je, VC, qA, qB, qC, qD, qE, qF, qG, qH, qI, qJ, qK, qL, qM, qN, qO, qP, qQ, qR, qS, qT, qU, qV, qW, qX, qY, qZ, qe, qf, qg, qh, qj, qk, ql, qm, qn, qo, qp, qq, q0t, qu, qv, ev, qw, qy, qz, zA, zB, zC, zD, zE, zF, zG, zH, zI, zJ, TE.sv, zK, zL, zM, ↓reduceIte, reduceCtorEq, Value.oneCell', Nat.reduceEqDiff, Nat.reduceAdd, Nat.reduceLT, Nat.reduceBEq, Nat.reduceSub, Nat.reduceLeDiff, zP, zQ, zR, zS, zT, zU, zV, zW, zX, zY, zZ, za, zb, zc, zd, ze, zf, zg, zh, zi, zj, zk, zl, zm, zn, zo, zp, zq, zr, zt, zu, zw, zx, zy, zz, cE, jA, jB, hap, killE, deadOf, rwE, cD, cO, jC, jD, jE, jF, jG, jH, jI, jJ, jK, jL, jM, jN, jO, jP, jQ, jR, jS, jT, jU, jV, jW, jX, jY, hP, hk, res69, kp69, noC, bldE, rwB, rwE, cond_true, cond_false])
  obtain ⟨i0, hi', hz0, hz1, hz2⟩ := info_parts infoU8b
  refine append_op (X := .rw 1 l.length) (Y := .sl 2 0 1 1) (o := some 1) (n := l.length) (m := 1) (z := 1) (bts := 1) (cells := bytesC l) (news := [.i .u8 (x.toNat : Int)]) (e := 5) (by rw [hP]; exact Tryz.underlying33) (by rw [hP]; exact hi') hz0 hz1 hz2 rfl Nat.zero_lt_one u8d (.some rfl) rfl rfl (src_sl (L := 1) rfl rfl) rfl rfl (fun pr y hy => by simp only [List.mem_cons, List.not_mem_nil, or_false] at hy; subst hy; trivial) hl (by omega) (by rw [hn0]; simp) rfl (by simp) ?_
  rw [show bytesC l ++ [SC.i .u8 (x.toNat : Int)] = bytesC (l ++ [x]) from bytesC_app l [x]]
  (refine VT_ok hctr (rs := res69) true 300 _ _ _ ?_; simp (maxSteps := 1000000) only [VT, jf, jg, jZ, ja, jd, je, VC, qA, qB, qC, qD, qE, qF, qG, qH, qI, qJ, qK, qL, qM, qN, qO, qP, qQ, qR, qS, qT, qU, qV, qW, qX, qY, qZ, qe, qf, qg, qh, qj, qk, ql, qm, qn, qo, qp, qq, q0t, qu, qv, ev, qw, qy, qz, zA, zB, zC, zD, zE, zF, zG, zH, zI, zJ, TE.sv, zK, zL, zM, ↓reduceIte, reduceCtorEq, Value.oneCell', Nat.reduceEqDiff, Nat.reduceAdd, Nat.reduceLT, Nat.reduceBEq, Nat.reduceSub, Nat.reduceLeDiff, zP, zQ, zR, zS, zT, zU, zV, zW, zX, zY, zZ, za, zb, zc, zd, ze, zf, zg, zh, zi, zj, zk, zl, zm, zn, zo, zp, zq, zr, zt, zu, zw, zx, zy, zz, cE, jA, jB, hap, killE, deadOf, rwE, cD, cO, jC, jD, jE, jF, jG, jH, jI, jJ, jK, jL, jM, jN, jO, jP, jQ, jR, jS, jT, jU, jV, jW, jX, jY, hP, hk, res69, kp69, noC, bldE, rwB, rwE, cond_true, cond_false, killE, deadOf])
  refine Fin_cx hC hres69 fun ρ w' hw hn _ => ?_
  have q0 : ρ 0 = reOf b := by rw [hw.ini 0 (by rw [hn0]; omega), hC]; exact zP
  have k0 := (hw.hp 0 _ _ _ (by simp) rfl).heap ⟨by decide, by rw [q0]; rfl⟩
  have o2 := hw.ho 3 _ _ _ (by simp) rfl
  have m0 := hw.mu 0 _ _ (by simp) rfl
  have m2 := hw.mu 3 _ _ (by simp) rfl
  have hup := hw.up
  rw [hC] at hup m2
  have h2 : rowP 1 (l ++ [x]).length (l ++ [x]).length (ρ 3) := by
    have := o2.2
    rw [bytesC_len] at this
    rw [show (l ++ [x]).length = l.length + 1 by simp] at this ⊢
    exact this
  have hl2 : (l ++ [x]).length = l.length + 1 := by simp
  refine ⟨rfl, hup, ρ 3, ⟨h2, fun hnl2 => ?_⟩, ?_, fun hnl2 => ?_, fun hnl2 hbb => ?_, ?_⟩
  · have := (hw.hp 3 _ _ _ (by simp) rfl).heap ⟨u8d, hnl2⟩
    rwa [bytesC_den] at this
  · rw [q0] at k0
    rw [hl2]
    simpa [reOf, dens, SC.den, ptrOf, q0] using k0
  · rcases m2 with h | h
    · rcases h with h | h
      · have hj := hw.inj 3 0 (by simp) (by simp) ((deadE_of (r := ρ 3) (c := 3) rfl).2 ⟨u8d, hnl2⟩) ((deadE_of (r := ρ 0) (c := 0) rfl).2 ⟨by decide, by rw [q0]; rfl⟩) (by rw [q0]; exact h)
        cases hj
      · cases hrn : r.nl with
        | none => exact .inl ⟨rfl, h⟩
        | some p => exact .inr (by rw [h, hnl (by rw [hrn]; simp)]; exact Nat.le_refl _)
    · exact .inr h
  · have hj := hw.inj 3 0 (by simp) (by simp) ((deadE_of (r := ρ 3) (c := 3) rfl).2 ⟨u8d, hnl2⟩) ((deadE_of (r := ρ 0) (c := 0) rfl).2 ⟨by decide, by rw [q0]; rfl⟩) (by rw [q0]; exact hbb)
    cases hj
  · rcases m2 with (h | h) | h
    · exact .inl h
    · exact .inr (.inl h)
    · exact .inr (.inr h)
theorem wb_h {C : Cx} {nE c d N : Nat} {mk : Nat → Prop} {en en' : List EN} {X : SC} {l : List UInt8} {x : UInt8} (hP : C.P = Tryz.prog) (hX : X = .v (.pointer none) ∨ X = .p c 0) (hc : zD en c = some (bldE X (.rw d l.length))) (hd : zD en d = some (rwB l)) (hl : l.length + 1 ≤ 100000000000) (hn0 : C.n0 ≤ N)
    (hmk : ∀ q, mk q ↔ q = N) (hNe : zD en' N = some (rwB (l ++ [x]))) (hce : zD en' c = some (bldE (.p c 0) (.rw N (l ++ [x]).length))) (hde : zD en' d = some (deadOf (rwB l))) (hq : ∀ q, q ≠ N → q ≠ c → q ≠ d → zD en' q = zD en q) :
    HCall C nE mk en en' 69 [.c (.p c 0), .c (.i .u8 (x.toNat : Int))] (.c (.v .nilIface)) := by
  refine ⟨fun args w => by rw [hP]; exact Tryz.call69 args w, ?_⟩
  intro ρ pr w hpr hmn hw hex hx
  have hcp : pr c := hx (.c (.p c 0)) (by simp)
  have hdp : pr d := (hw.hp c _ _ _ hcp hc).wf (.rw d l.length) (by simp)
  have lN : ¬ pr N := hmn N ((hmk N).2 rfl)
  obtain ⟨k1, k2, k3, k4, k5⟩ := ent_blk hw.hp hw.ho hcp hc (by decide) (by simp)
  have e0 : (List.map (SV.den ρ) [.c (.p c 0), .c (.i .u8 (x.toNat : Int))]).toArray = #[.pointer (some ⟨(ρ c).blk, 0, none⟩), .int .u8 (x.toNat : Int)] := by
    show #[ptrOf ρ c 0, .int .u8 (x.toNat : Int)] = _
    rw [k2]
  rw [e0, hP]
  have od := hw.ho d _ _ _ hdp hd
  obtain ⟨r0, hr0, hr1, hr2, hr3⟩ : ∃ r0 : RE, (∀ n, rwOf r0 n = rwOf (ρ d) n) ∧ r0.nl = (ρ d).nl ∧ (r0.nl = none → r0 = ρ d) ∧ (r0.nl ≠ none → r0.blk = w.heap.size ∧ r0.pre = (ρ d).pre ∧ r0.post = (ρ d).post ∧ r0.cap = (ρ d).cap) := by
    cases h : (ρ d).nl with
    | none => exact ⟨ρ d, fun _ => rfl, h, fun _ => rfl, fun hh => absurd h hh⟩
    | some p => exact ⟨⟨w.heap.size, (ρ d).pre, (ρ d).post, (ρ d).cap, some p⟩, fun n => by unfold rwOf; simp only [h], rfl, (fun hh => by cases hh), fun _ => ⟨rfl, rfl, rfl, rfl⟩⟩
  have hrow : RowB w r0 l := by
    cases h : r0.nl with
    | none =>
      rw [hr2 h]
      refine ⟨by have := od.2; rwa [bytesC_len] at this, fun hn => ?_⟩
      have := (hw.hp d _ _ _ hdp hd).heap ⟨u8d, hn⟩
      rwa [bytesC_den] at this
    | some p =>
      obtain ⟨g1, g2, g3, g4⟩ := hr3 (by rw [h]; simp)
      refine ⟨?_, fun hn => by rw [h] at hn; cases hn⟩
      have := od.2
      rw [bytesC_len] at this
      obtain ⟨t1, t2⟩ := this
      refine ⟨t1, ?_⟩
      rw [hr1, g2, g3, g4]; exact t2
  have hcd : c ≠ d := fun h => by
    subst h; rw [hc] at hd
    have := congrArg (Option.map fun e : EN => e.ty.1) hd
    simp [bldE, rwB, rwE] at this
  have live_c : deadE (ρ c) (zD en c) = false := (deadE_of hc).2 ⟨by decide, k5⟩
  have live_d : r0.nl = none → deadE (ρ d) (zD en d) = false := fun h => (deadE_of hd).2 ⟨u8d, by rw [← hr1]; exact h⟩
  have hXd : X.den (fun _ => reOf (ρ c).blk) = X.den ρ ∨ True := .inr trivial
  obtain ⟨X', hX', hXX⟩ : ∃ X' : SC, (X' = .v (.pointer none) ∨ X' = .p 0 0) ∧ X'.den (fun _ => reOf (ρ c).blk) = X.den ρ := by
    rcases hX with rfl | rfl
    · exact ⟨_, .inl rfl, rfl⟩
    · exact ⟨_, .inr rfl, by rw [show (SC.p c 0).den ρ = _ from k2]; rfl⟩
  refine (wb_w (w := w) (x := x) (b := (ρ c).blk) (X := X') (r := r0) (l := l) hX' ?_ hrow (fun h hb => ?_) (fun h => (hr3 h).1) hl).mono ?_
  · rw [hXX, hr0]
    simpa [Blk, dens, SC.den] using k1
  · rw [hr2 h] at hb
    exact hcd (hw.inj d c hdp hcp (live_d h) live_c hb).symm
  rintro e w' ⟨rfl, hU, r', hrow', hb', hbl, hbn, hba⟩
  have hT : ∀ q, pr q → q ≠ c → q ≠ d → deadE (ρ q) (zD en q) = false → ¬ ((ρ q).blk = (ρ c).blk ∨ (ρ q).blk = r0.blk) := by
    intro q hqp hqc hqd hlq h
    rcases h with h | h
    · exact hqc (hw.inj q c hqp hcp hlq live_c h)
    · cases hn : r0.nl with
      | none =>
        rw [hr2 hn] at h
        exact hqd (hw.inj q d hqp hdp hlq (live_d hn) h)
      | some p =>
        have := hw.lt hqp hlq
        rw [h, (hr3 (by rw [hn]; simp)).1] at this
        exact Nat.lt_irrefl _ this
  have hup : updR ρ N r' N = r' := if_pos rfl
  have hoc : updR ρ N r' c = ρ c := if_neg (fun h : c = N => lN (h ▸ hcp))
  obtain ⟨k1', k2'⟩ := Hw.rebuild (C := C) (ρ := ρ) (pr := pr) (en := en) (en' := en') (w := w) (w' := w') (N := N) (e := rwB (l ++ [x])) (T := fun k => k = (ρ c).blk ∨ k = r0.blk) r' hw lN hn0 hU
    (fun k hk h => by
      rcases h with rfl | rfl
      · exact (hw.mu c _ _ hcp hc).resolve_right (by omega)
      · cases hn : r0.nl with
        | none => rw [hr2 hn] at hk ⊢; exact (hw.mu d _ _ hdp hd).resolve_right (by omega)
        | some p =>
          rw [(hr3 (by rw [hn]; simp)).1] at hk
          have := hw.up.size
          omega)
    (fun q hqp => by
      have hqN : q ≠ N := fun h => lN (h ▸ hqp)
      by_cases hqc : q = c
      · subst hqc
        refine .inr (.inr ⟨_, _, _, _, hc, hce, by decide, ⟨fun _ => ?_, ?_, fun hd => absurd hd (by decide), fun hn => absurd (by rw [hoc]; exact k5) hn⟩⟩)
        · rw [hoc, k3, k4, hb']
          have e1 : (SC.p q 0).den (updR ρ N r') = .pointer (some ⟨(ρ q).blk, 0, none⟩) := by
            show ptrOf (updR ρ N r') q 0 = _
            simp only [ptrOf, hoc, k3]; rfl
          have e2 : (SC.rw N (l ++ [x]).length).den (updR ρ N r') = rwOf r' (l ++ [x]).length := by
            show rwOf (updR ρ N r' N) _ = _
            rw [hup]
          simp only [dens, List.map_cons, List.map_nil, e1, e2, List.nil_append, List.append_nil]
        · intro y hy
          simp only [List.mem_cons, List.not_mem_nil, or_false] at hy
          rcases hy with rfl | rfl
          · exact .inl hcp
          · exact .inr rfl
      · by_cases hqd : q = d
        · subst hqd
          exact .inr (.inl ⟨_, hd, hde⟩)
        · exact .inl ⟨hq q hqN hqc hqd, fun hlq => hT q hqp hqc hqd hlq⟩)
    hNe ⟨fun hl => by
        rw [hup] at hl ⊢
        show w'.heap[r'.blk]? = some (.cells (r'.pre ++ dens (updR ρ N r') (bytesC (l ++ [x])) ++ r'.post).toArray _ (0, 0))
        rw [bytesC_den]; exact hrow'.2 hl.2, bytesC_wf _ _, (fun hd => absurd (show (5 : Nat) = DEAD from hd) u8d), (fun hn => by
        rw [hup] at hn
        obtain ⟨_, h | h⟩ := hrow'.1
        · exact absurd h.1 hn
        · have : l ++ [x] = [] := List.eq_nil_of_length_eq_zero h.2.1
          show bytesC (l ++ [x]) = []
          rw [this]; rfl)⟩
    ⟨(by
      obtain ⟨_, h | h⟩ := hrow'.1
      · show r'.pre.length = 0; rw [h.2.1]; rfl
      · show r'.pre.length = 0; rw [h.2.2]; rfl), (by
      show rowP 1 (l ++ [x]).length (bytesC (l ++ [x])).length r'
      rw [bytesC_len]; exact hrow'.1)⟩
    (fun hnl q hqp hlq hbq => by
      have hqN : q ≠ N := fun h => lN (h ▸ hqp)
      by_cases hqc : q = c
      · subst hqc; exact hbn hnl hbq.symm
      · by_cases hqd : q = d
        · subst hqd
          rw [hde] at hlq
          simp [deadOf, deadE] at hlq
        · rw [hq q hqN hqc hqd] at hlq
          rcases hbl hnl with ⟨h1, h2⟩ | h1
          · exact hT q hqp hqc hqd hlq (.inr (by rw [hbq, h2]))
          · have := hw.lt hqp hlq
            omega)
    (fun _ => by
      cases hnl : r'.nl with
      | some p =>
        rcases hba with h | h | h
        · rw [h]; exact hw.mu c _ _ hcp hc
        · cases hn : r0.nl with
          | none => rw [h, hr2 hn]; exact hw.mu d _ _ hdp hd
          | some p' => exact .inr (by rw [h, (hr3 (by rw [hn]; simp)).1]; exact hw.up.size)
        · exact .inr (Nat.le_trans hw.up.size h)
      | none =>
        rcases hbl hnl with ⟨h1, h2⟩ | h1
        · rw [h2, hr2 h1]; exact hw.mu d _ _ hdp hd
        · exact .inr (Nat.le_trans hw.up.size h1))
  have hsame : (fun q => pr q ∨ mk q) = fun q => pr q ∨ q = N := funext fun q => propext (or_congr_right (hmk q))
  rw [hsame]
  exact ⟨updR ρ N r', k1', rfl, trivial, k2', fun q hq => by rw [(hmk q).1 hq, hNe]; simp⟩
def bX (t : List UInt8) : SC := if t = [] then .v (.pointer none) else .p 0 0
theorem bX_or (t : List UInt8) : bX t = .v (.pointer none) ∨ bX t = .p 0 0 := by unfold bX; split <;> simp
section
variable {C : Cx} {nt : Nat} {sl : List (Nat × SV)} {en : List EN} {k : List KI}
variable {dst : Option Nat} {ty : TypeId} {pos : String} {af : Array Edge} {all r : List Oper} {gd : Option (Nat × Bool)}
theorem Run_bstr {X : SC} {l : List UInt8} {c d : Nat} {args : Array Operand} {tys : Array TypeId} (hP : C.P = Tryz.prog) (hS : C.S = Non) (hn0 : C.n0 = 0) (hX : X = .v (.pointer none) ∨ X = .p c 0) (hc : zD en c = some (bldE X (.rw d l.length))) (hd : zD en d = some (rwB l)) (hx : qw sl args.toList = some [.c (.p c 0)]) (hg : gdT all sl gd = true) (hdst : ∀ d, dst = some d → d < nt)
    (hK : Run C (.ops all r :: k) nt (jN dst (.c (.s l)) []) []) : Run C (.ops all (⟨dst, .call ⟨.value (.func 70), args, tys⟩, ty, pos, af, gd⟩ :: r) :: k) nt sl en := by
  refine Run_ocall hx hg (fun args w => by rw [hP]; exact Tryz.call70 args w) fun ρ a w hr hwf => ?_
  have hw := hr.hw
  have lc : c < en.length := hwf (.c (.p c 0)) (by simp)
  have ld : d < en.length := (hw.hp c _ _ _ lc hc).wf (.rw d l.length) (by simp)
  obtain ⟨k1, k2, k3, k4, k5⟩ := ent_blk hw.hp hw.ho lc hc (by decide) (by simp)
  have hpt : (SC.p c 0).den ρ = .pointer (some ⟨(ρ c).blk, 0, none⟩) := k2
  have e0 : (List.map (SV.den ρ) [.c (.p c 0)]).toArray = #[.pointer (some ⟨(ρ c).blk, 0, none⟩)] := by
    show #[ptrOf ρ c 0] = _
    rw [k2]
  have own : ∀ c cells ty, c < en.length → zD en c = some ⟨ty, cells, true⟩ → C.w0.heap.size ≤ (ρ c).blk := fun c cells ty hl he => (hw.mu c ty cells hl he).resolve_left (by rw [hS]; exact fun h => h)
  have hb : w.heap[(ρ c).blk]? = some (.cells #[X.den ρ, rwOf (ρ d) l.length] 107 (0, 0)) := by
    have e1 : dens ρ [X, .rw d l.length] = [X.den ρ, rwOf (ρ d) l.length] := by
      simp only [dens, List.map_cons, List.map_nil]; rfl
    rw [e1] at k1; exact k1
  have hbc : Lib.byteCells l = dens ρ (bytesC l) := by rw [bytesC_den]; rfl
  have hlen : (Lib.byteCells l).length = l.length := by rw [hbc, dens_len, bytesC_len]
  obtain ⟨_, hO⟩ := hw.ho d _ _ _ ld hd
  have hcd : c ≠ d := fun h => by
    subst h; rw [hc] at hd
    have := congrArg (Option.map fun e : EN => e.ty.1) hd
    simp [bldE, rwB, rwE] at this
  have hbld : Lib.IsBuilderF 107 5 C.w0.heap.size (ρ c).blk (Lib.byteCells l) w := by
    have hor : Lib.BuilderAt 107 5 C.w0.heap.size (ρ c).blk (X.den ρ) (Lib.byteCells l) w → Lib.IsBuilderF 107 5 C.w0.heap.size (ρ c).blk (Lib.byteCells l) w := fun h => by
      rcases hX with rfl | rfl
      · exact .inl (Lib.BuilderAtF.of h)
      · rw [hpt] at h; exact .inr (Lib.BuilderAtF.of h)
    refine hor ⟨own c _ _ lc hc, _, hb, ?_, ?_⟩
    · rw [hlen, hbc]
      refine ⟨by rw [dens_len, bytesC_len, Nat.mul_one], ?_⟩
      obtain ⟨_, h⟩ := hO
      rcases h with ⟨h1, h2, h3, h4, h5⟩ | ⟨h1, h2, h3⟩
      · have hh := (hw.hp d _ _ _ ld hd).heap ⟨u8d, h1⟩
        refine .inr ⟨(ρ d).blk, (ρ d).cap, _, rwOf_on h1 _, own d _ _ ld hd, hh, h4, h5, ?_, ?_⟩
        · simpa [h2, dens_len] using h3
        · rw [h2]; simp only [List.nil_append, List.toList_toArray]
          rw [List.take_append_of_le_length (by simp [dens_len, bytesC_len]), List.take_of_length_le (by simp [dens_len, bytesC_len])]
      · exact .inl ⟨by rw [rwOf_off h1, h2], h2⟩
    · obtain ⟨_, h⟩ := hO
      rcases h with ⟨h1, _⟩ | ⟨h1, _⟩
      · rw [rwOf_on h1]
        intro h
        simp only [Value.ownBlock, Option.some.injEq] at h
        exact hcd (hw.inj d c ld lc ((deadE_of hd).2 ⟨u8d, h1⟩) ((deadE_of hc).2 ⟨by decide, k5⟩) h).symm
      · rw [rwOf_off h1]; intro h; cases h
  rw [e0, hP]
  refine (Tryz.Builder_String_any_k C.w0.heap.size (ρ c).blk l w hbld hw.up.size).mono ?_
  rintro e w' ⟨rfl, _, hbl, _⟩
  refine .inl ⟨_, rfl, hK ρ _ w' ?_⟩
  have hup : Upd C.S C.w0 w' := ⟨hbl.os.trans hw.up.os, hbl.tape.trans hw.up.tape, hbl.output.trans hw.up.output, Nat.le_trans hw.up.size hbl.size, fun q hq hs => (hbl.block q hq).trans (hw.up.block q hq hs)⟩
  have hr0 : Rep C ρ nt [] [] a w' := ⟨⟨fun c _ _ _ h => absurd h (Nat.not_lt_zero c), fun c _ _ _ h => absurd h (Nat.not_lt_zero c), fun c _ h => absurd h (Nat.not_lt_zero c), hup, fun c _ _ h => absurd h (Nat.not_lt_zero c), fun c h => by rw [hn0] at h; exact absurd h (Nat.not_lt_zero c)⟩, fun d v h => by simp [qy] at h, hr.sz, hr.df, by rw [hn0]; exact Nat.zero_le _⟩
  cases dst with
  | none => exact hr0
  | some q => exact hr0.put (hdst q rfl) (v := .c (.s l)) trivial
end
end Go.Proofs.YtehfcboiimdkbaaGreatDoor
