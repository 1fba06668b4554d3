/- ConnPieces, walked. Printed by gen_cpieces.py. -/
import Derived.Test.YtehfcboiimdkbaaGreatDoorCCpw
import Derived.Test.YtehfcboiimdkbaaGreatDoorBB
namespace Go.Proofs.YtehfcboiimdkbaaGreatDoor
set_option linter.unusedSimpArgs false
set_option linter.unusedVariables false
set_option linter.unusedSimpArgs false
set_option linter.unusedVariables false
set_option maxHeartbeats 8000000
open Go.RowKit
set_option maxRecDepth 100000
def slA (b : List UInt8) (a : Option Addr) (n c : Nat) (L : Nat) : List (Nat × SV) := [(9, .c (.i .i64 (L : Int))), (8, .c (.rw 2 L)), (7, .c (.p 1 0)), (6, .c (.p 0 0)), (1, .c (.v (.slice a n c))), (0, .c (.s b))]
def slB (b : List UInt8) (a : Option Addr) (n c : Nat) (L : Nat) : List (Nat × SV) := [(8, .c (.rw 2 L)), (7, .c (.p 1 0)), (6, .c (.p 0 0)), (1, .c (.v (.slice a n c))), (0, .c (.s b))]
structure IA (b : List UInt8) (c : Cn) (L : LR) : Prop where
  ok : CnOk c
  fit : CnFit c
  len : L.length + c.inp.length ≤ b.length
  dr : ∀ l c', Dr c l c' → Dr (cnFeed Cn.zero b).1 (L.map Prod.fst ++ l) c'
structure IB (b : List UInt8) (cf : Cn) (L : LR) (t n i : Nat) (d : Cn) : Prop where
  ht : t ≤ b.length
  hi : i ≤ t
  hn : n ≤ L.length
  ok : CnOk d
  fit : CnFit d
  len : d.inp.length ≤ t
  dr : Dr (cnFeed d (b.drop t)).1 ((L.map Prod.fst).drop n) cf
  no : (cnNext d).2.2 = false
def slC (b : List UInt8) (a : Option Addr) (n c L t n1 i : Nat) : List (Nat × SV) := [(14, .c (.i .i64 (i : Int))), (13, .c (.i .i64 (t : Int))), (12, .c (.i .i64 (n1 : Int))), (8, .c (.rw 2 L)), (7, .c (.p 1 0)), (6, .c (.p 0 0)), (1, .c (.v (.slice a n c))), (0, .c (.s b))]
structure IC (b : List UInt8) (cf : Cn) (L : LR) (t n : Nat) (d : Cn) (more : Bool) : Prop where
  hn : n ≤ L.length
  ok : CnOk d
  fit : CnFit d
  len : d.inp.length ≤ t
  dr : Dr (cnFeed d (b.drop t)).1 ((L.map Prod.fst).drop n) cf
  no : more = false → (cnNext d).2.2 = false
def slE (b : List UInt8) (a : Option Addr) (n c L t n1 i : Nat) (more : Bool) : List (Nat × SV) := (17, .c (.b more)) :: slC b a n c L t n1 i
def slG (b : List UInt8) (L m n1 t i : Nat) (a : Option Addr) (n c : Nat) : List (Nat × SV) := [(18, .c (.p 5 0)), (17, .c (.b true)), (14, .c (.i .i64 (i : Int))), (13, .c (.i .i64 (t : Int))), (8, .c (.sl 2 0 L m)), (12, .c (.i .i64 (n1 : Int))), (7, .c (.p 1 0)), (6, .c (.p 0 0)), (1, .c (.v (.slice a n c))), (0, .c (.s b))]
def slD (L n1 : Nat) : List (Nat × SV) := [(12, .c (.i .i64 (n1 : Int))), (8, .c (.rw 2 L)), (7, .c (.p 1 0)), (6, .c (.p 0 0))]
theorem pieces_walk {w : World} {b0 : List UInt8} {a : Option Addr} {n c : Nat} (hb0 : b0.length ≤ 9223372036854775807) (hraw : RawI w a n) (hnm : n ≤ 9223372036854775807) (hE0 : EnvT w) :
    Calls Tryz.prog 5 #[.string ⟨b0.toArray⟩, .slice a n c] w fun e w' => e = .returned (.bool true) ∧ Below w.heap.size w w' := by
  refine calls_of_Run Tryz.func5 rfl kp5 (S := Non) (ρ := fun _ => reOf 0) (en := []) [.c (.s b0), .c (.v (.slice a n c))] Tryz.ntmps5 (At.nil _ _ _) (by simp [SV.wf, SC.wf]) (by simp) ?_
  intro C hC hP hk
  have hE : ∀ w', Upd C.S C.w0 w' → EnvT w' := fun w' hu => by rw [hC] at hu; exact hE0.below hu.to_below
  have hctr := clC_ok hP hE
  have hn0 : C.n0 = 0 := by rw [hC]; rfl
  have hCtx : Ctx C Tryz.prog Tryz.f5 (fun e w' => e = .returned (.bool true) ∧ Below w.heap.size w w') := by rw [hC]; exact ctx_of
  obtain ⟨b, hb, hbl, head⟩ : ∃ b : List UInt8, b.length ≤ 60000 ∧ (b = b0 ∧ decide ((60000 : Int) < (b0.length : Int)) = false ∨ b = b0.take 60000 ∧ 60000 < b0.length ∧ decide ((60000 : Int) < (b0.length : Int)) = true) ∧ True := by
    by_cases h : 60000 < b0.length
    · exact ⟨b0.take 60000, by rw [List.length_take]; omega, .inr ⟨rfl, h, decide_eq_true (by omega)⟩, trivial⟩
    · exact ⟨b0, by omega, .inl ⟨rfl, decide_eq_false (by omega)⟩, trivial⟩
  (refine VT_ok hctr (rs := res5) true 16 _ _ _ ?_; simp (maxSteps := 1000000) only [VT, jf, jg, jZ, ja, jd, je, VC, qA, qB, qC, qD, qE, qF, qG, qH, qI, qJ, qK, qL, qM, qN, qO, qP, qQ, qR, qS, qT, qU, qV, qW, qX, qY, qZ, qe, qf, qg, qh, qj, qk, ql, qm, qn, qo, qp, qq, q0t, qu, qv, ev, qw, qy, qz, zA, zB, zC, zD, zE, zF, zG, zH, zI, zJ, TE.sv, zK, zL, zM, ↓reduceIte, reduceCtorEq, Value.oneCell', Nat.reduceEqDiff, Nat.reduceAdd, Nat.reduceLT, Nat.reduceBEq, Nat.reduceSub, Nat.reduceLeDiff, zP, zQ, zR, zS, zT, zU, zV, zW, zX, zY, zZ, za, zb, zc, zd, ze, zf, zg, zh, zi, zj, zk, zl, zm, zn, zo, zp, zq, zr, zt, zu, zw, zx, zy, zz, cE, jA, jB, hap, killE, deadOf, rwE, cD, cO, jC, jD, jE, jF, jG, jH, jI, jJ, jK, jL, jM, jN, jO, jP, jQ, jR, jS, jT, jU, jV, jW, jX, jY, hP, hk, res5, kp5, clC, gqZ, gqS, Int.toNat_natCast, Int.toNat_zero, Nat.mul_one, Int.le_refl, beq_self_eq_true, bne_self_eq_false, Bool.not_false, Bool.not_true])
  refine Run_join (κ := Unit) (fun _ => [(5, .c (.b true)), (1, .c (.v (.slice a n c))), (0, .c (.s b))]) (fun _ => []) (fun _ => ?_) fun use => ?_
  rotate_left
  · rcases hbl with ⟨rfl, c1⟩ | ⟨rfl, c0, c1⟩
    · (refine VT_ok hctr (rs := res5) true 2 _ _ _ ?_; simp (maxSteps := 1000000) only [VT, jf, jg, jZ, ja, jd, je, VC, qA, qB, qC, qD, qE, qF, qG, qH, qI, qJ, qK, qL, qM, qN, qO, qP, qQ, qR, qS, qT, qU, qV, qW, qX, qY, qZ, qe, qf, qg, qh, qj, qk, ql, qm, qn, qo, qp, qq, q0t, qu, qv, ev, qw, qy, qz, zA, zB, zC, zD, zE, zF, zG, zH, zI, zJ, TE.sv, zK, zL, zM, ↓reduceIte, reduceCtorEq, Value.oneCell', Nat.reduceEqDiff, Nat.reduceAdd, Nat.reduceLT, Nat.reduceBEq, Nat.reduceSub, Nat.reduceLeDiff, zP, zQ, zR, zS, zT, zU, zV, zW, zX, zY, zZ, za, zb, zc, zd, ze, zf, zg, zh, zi, zj, zk, zl, zm, zn, zo, zp, zq, zr, zt, zu, zw, zx, zy, zz, cE, jA, jB, hap, killE, deadOf, rwE, cD, cO, jC, jD, jE, jF, jG, jH, jI, jJ, jK, jL, jM, jN, jO, jP, jQ, jR, jS, jT, jU, jV, jW, jX, jY, hP, hk, res5, kp5, clC, gqZ, gqS, Int.toNat_natCast, Int.toNat_zero, Nat.mul_one, Int.le_refl, beq_self_eq_true, bne_self_eq_false, Bool.not_false, Bool.not_true, c1])
      exact use () _ (sub_mk ⟨rfl, rfl, rfl, trivial⟩)
    · have c2 : (60000 : Int) ≤ (b0.length : Int) := by omega
      (refine VT_ok hctr (rs := res5) true 6 _ _ _ ?_; simp (maxSteps := 1000000) only [VT, jf, jg, jZ, ja, jd, je, VC, qA, qB, qC, qD, qE, qF, qG, qH, qI, qJ, qK, qL, qM, qN, qO, qP, qQ, qR, qS, qT, qU, qV, qW, qX, qY, qZ, qe, qf, qg, qh, qj, qk, ql, qm, qn, qo, qp, qq, q0t, qu, qv, ev, qw, qy, qz, zA, zB, zC, zD, zE, zF, zG, zH, zI, zJ, TE.sv, zK, zL, zM, ↓reduceIte, reduceCtorEq, Value.oneCell', Nat.reduceEqDiff, Nat.reduceAdd, Nat.reduceLT, Nat.reduceBEq, Nat.reduceSub, Nat.reduceLeDiff, zP, zQ, zR, zS, zT, zU, zV, zW, zX, zY, zZ, za, zb, zc, zd, ze, zf, zg, zh, zi, zj, zk, zl, zm, zn, zo, zp, zq, zr, zt, zu, zw, zx, zy, zz, cE, jA, jB, hap, killE, deadOf, rwE, cD, cO, jC, jD, jE, jF, jG, jH, jI, jJ, jK, jL, jM, jN, jO, jP, jQ, jR, jS, jT, jU, jV, jW, jX, jY, hP, hk, res5, kp5, clC, gqZ, gqS, Int.toNat_natCast, Int.toNat_zero, Nat.mul_one, Int.le_refl, beq_self_eq_true, bne_self_eq_false, Bool.not_false, Bool.not_true, c1, c2, List.drop_zero])
      exact ⟨by decide, use () _ (sub_mk ⟨rfl, rfl, rfl, trivial⟩)⟩
  (refine VT_ok hctr (rs := res5) true 300 _ _ _ ?_; simp (maxSteps := 1000000) only [VT, jf, jg, jZ, ja, jd, je, VC, qA, qB, qC, qD, qE, qF, qG, qH, qI, qJ, qK, qL, qM, qN, qO, qP, qQ, qR, qS, qT, qU, qV, qW, qX, qY, qZ, qe, qf, qg, qh, qj, qk, ql, qm, qn, qo, qp, qq, q0t, qu, qv, ev, qw, qy, qz, zA, zB, zC, zD, zE, zF, zG, zH, zI, zJ, TE.sv, zK, zL, zM, ↓reduceIte, reduceCtorEq, Value.oneCell', Nat.reduceEqDiff, Nat.reduceAdd, Nat.reduceLT, Nat.reduceBEq, Nat.reduceSub, Nat.reduceLeDiff, zP, zQ, zR, zS, zT, zU, zV, zW, zX, zY, zZ, za, zb, zc, zd, ze, zf, zg, zh, zi, zj, zk, zl, zm, zn, zo, zp, zq, zr, zt, zu, zw, zx, zy, zz, cE, jA, jB, hap, killE, deadOf, rwE, cD, cO, jC, jD, jE, jF, jG, jH, jI, jJ, jK, jL, jM, jN, jO, jP, jQ, jR, jS, jT, jU, jV, jW, jX, jY, hP, hk, res5, kp5, clC, gqZ, gqS, Int.toNat_natCast, Int.toNat_zero, Nat.mul_one, Int.le_refl, beq_self_eq_true, bne_self_eq_false, Bool.not_false, Bool.not_true])
  refine Run_new hP (by rw [hn0]; exact Nat.zero_le _) rfl (by simp) ?_
  (refine VT_ok hctr (rs := res5) true 300 _ _ _ ?_; simp (maxSteps := 1000000) only [VT, jf, jg, jZ, ja, jd, je, VC, qA, qB, qC, qD, qE, qF, qG, qH, qI, qJ, qK, qL, qM, qN, qO, qP, qQ, qR, qS, qT, qU, qV, qW, qX, qY, qZ, qe, qf, qg, qh, qj, qk, ql, qm, qn, qo, qp, qq, q0t, qu, qv, ev, qw, qy, qz, zA, zB, zC, zD, zE, zF, zG, zH, zI, zJ, TE.sv, zK, zL, zM, ↓reduceIte, reduceCtorEq, Value.oneCell', Nat.reduceEqDiff, Nat.reduceAdd, Nat.reduceLT, Nat.reduceBEq, Nat.reduceSub, Nat.reduceLeDiff, zP, zQ, zR, zS, zT, zU, zV, zW, zX, zY, zZ, za, zb, zc, zd, ze, zf, zg, zh, zi, zj, zk, zl, zm, zn, zo, zp, zq, zr, zt, zu, zw, zx, zy, zz, cE, jA, jB, hap, killE, deadOf, rwE, cD, cO, jC, jD, jE, jF, jG, jH, jI, jJ, jK, jL, jM, jN, jO, jP, jQ, jR, jS, jT, jU, jV, jW, jX, jY, hP, hk, res5, kp5, clC, gqZ, gqS, Int.toNat_natCast, Int.toNat_zero, Nat.mul_one, Int.le_refl, beq_self_eq_true, bne_self_eq_false, Bool.not_false, Bool.not_true])
  refine Run_new hP (by rw [hn0]; exact Nat.zero_le _) rfl (by simp) ?_
  (refine VT_ok hctr (rs := res5) true 300 _ _ _ ?_; simp (maxSteps := 1000000) only [VT, jf, jg, jZ, ja, jd, je, VC, qA, qB, qC, qD, qE, qF, qG, qH, qI, qJ, qK, qL, qM, qN, qO, qP, qQ, qR, qS, qT, qU, qV, qW, qX, qY, qZ, qe, qf, qg, qh, qj, qk, ql, qm, qn, qo, qp, qq, q0t, qu, qv, ev, qw, qy, qz, zA, zB, zC, zD, zE, zF, zG, zH, zI, zJ, TE.sv, zK, zL, zM, ↓reduceIte, reduceCtorEq, Value.oneCell', Nat.reduceEqDiff, Nat.reduceAdd, Nat.reduceLT, Nat.reduceBEq, Nat.reduceSub, Nat.reduceLeDiff, zP, zQ, zR, zS, zT, zU, zV, zW, zX, zY, zZ, za, zb, zc, zd, ze, zf, zg, zh, zi, zj, zk, zl, zm, zn, zo, zp, zq, zr, zt, zu, zw, zx, zy, zz, cE, jA, jB, hap, killE, deadOf, rwE, cD, cO, jC, jD, jE, jF, jG, jH, jI, jJ, jK, jL, jM, jN, jO, jP, jQ, jR, jS, jT, jU, jV, jW, jX, jY, hP, hk, res5, kp5, clC, gqZ, gqS, Int.toNat_natCast, Int.toNat_zero, Nat.mul_one, Int.le_refl, beq_self_eq_true, bne_self_eq_false, Bool.not_false, Bool.not_true])
  refine ⟨ptr_und, ptr_und, ?_⟩
  obtain ⟨c1, hc1⟩ : ∃ c1, c1 = (cnFeed Cn.zero b).1 := ⟨_, rfl⟩
  have hfz : (cnFeed Cn.zero b).2 = (b.length : Int) := by rw [feed_room fit_zero rfl (by show 0 + b.length ≤ 70000; omega)]
  obtain ⟨fc1, fc2, fc3, fc4⟩ := feed_fit fit_zero (x := b) (by show 0 + b.length ≤ 70000; omega)
  rw [← hc1] at fc1 fc2 fc3 fc4
  refine Run_cn (N := 0) (c := Cn.zero) c1 (ys := [.c (.s b)]) (.c (.i .i64 (b.length : Int))) rfl hP rfl (by simp [zG, en3]) (fun args w => Tryz.call11 args w) (fun pr => by simp [SV.wf, SC.wf, TE.wf]) (fun ρ w g h => by have := feed_w CnOk.zero b (by omega) h; rw [hfz, ← hc1] at this; exact this) rfl (by simp) ?_
  (refine VT_ok hctr (rs := res5) true 300 _ _ _ ?_; simp (maxSteps := 1000000) only [VT, jf, jg, jZ, ja, jd, je, VC, qA, qB, qC, qD, qE, qF, qG, qH, qI, qJ, qK, qL, qM, qN, qO, qP, qQ, qR, qS, qT, qU, qV, qW, qX, qY, qZ, qe, qf, qg, qh, qj, qk, ql, qm, qn, qo, qp, qq, q0t, qu, qv, ev, qw, qy, qz, zA, zB, zC, zD, zE, zF, zG, zH, zI, zJ, TE.sv, zK, zL, zM, ↓reduceIte, reduceCtorEq, Value.oneCell', Nat.reduceEqDiff, Nat.reduceAdd, Nat.reduceLT, Nat.reduceBEq, Nat.reduceSub, Nat.reduceLeDiff, zP, zQ, zR, zS, zT, zU, zV, zW, zX, zY, zZ, za, zb, zc, zd, ze, zf, zg, zh, zi, zj, zk, zl, zm, zn, zo, zp, zq, zr, zt, zu, zw, zx, zy, zz, cE, jA, jB, hap, killE, deadOf, rwE, cD, cO, jC, jD, jE, jF, jG, jH, jI, jJ, jK, jL, jM, jN, jO, jP, jQ, jR, jS, jT, jU, jV, jW, jX, jY, hP, hk, res5, kp5, clC, gqZ, gqS, Int.toNat_natCast, Int.toNat_zero, Nat.mul_one, Int.le_refl, beq_self_eq_true, bne_self_eq_false, Bool.not_false, Bool.not_true])
  have IA0 : IA b c1 [] := by
    refine ⟨by rw [hc1]; exact CnOk.zero.feed b, fc1, ?_, fun l c' h => by rw [← hc1]; exact h⟩
    have : c1.inp.length ≤ 0 + b.length := fc2
    simp only [List.length_nil]; omega
  refine Run_nilrowG true (en' := [cnE c1 true, cnE Cn.zero true]) (sl' := slA b a n c 0) (30, 0, rowP 11 0 0) rfl (fun _ => ⟨rfl, .inr ⟨rfl, rfl, rfl⟩⟩) (fun _ => by show ¬ ((30 : Nat) = DEAD); decide) ?_ ?_ ?_
  · exact ⟨⟨rfl, rfl, fun _ _ => rfl, cn_wf _ _⟩, ⟨rfl, rfl, fun _ _ => rfl, cn_wf _ _⟩, trivial⟩
  · refine ⟨⟨⟨_, rfl, fun _ _ => rfl⟩, trivial⟩, ⟨⟨_, rfl, fun ρ h => ?_⟩, ?_⟩, ⟨⟨_, rfl, fun _ _ => rfl⟩, ?_⟩, ⟨⟨_, rfl, fun _ _ => rfl⟩, ?_⟩, ⟨⟨_, rfl, fun _ _ => rfl⟩, trivial⟩, ⟨⟨_, rfl, fun _ _ => rfl⟩, trivial⟩, trivial⟩
    · have h : (ρ 2).nl = some none := h
      simp only [SV.den, SC.den, rwOf_off h]
    · show 2 < 2 + 1; decide
    · show 1 < 2 + 1; decide
    · show 0 < 2 + 1; decide
  refine Run_loopW (ι := { y : Cn × LR // IA b y.1 y.2 }) (κ := { y : Cn × LR // IA b y.1 y.2 ∧ (cnNext y.1).2.2 = false }) 0 (fun y => slA b a n c y.1.2.length) (fun y => en3 y.1.1 Cn.zero y.1.2) (fun y ρ w' => PJ w y.1.2 (en3 y.1.1 Cn.zero y.1.2) ρ w') (fun y => y.1.1.inp.length) ⟨(c1, []), IA0⟩ (fun y => slB b a n c y.1.2.length) (fun y => en3 y.1.1 Cn.zero y.1.2) (fun y ρ w' => PJ w y.1.2 (en3 y.1.1 Cn.zero y.1.2) ρ w') rfl ?_ ?_ ?_
  · intro ρ act w' hr
    have hwt : Wt C.df ρ _ (slA b a n c 0) (en3 c1 Cn.zero []) act w' := hr.wt
    have hmu : ∀ i t cells, zD (en3 c1 Cn.zero []) i = some ⟨t, cells, true⟩ → w.heap.size ≤ (ρ i).blk := fun i t cells hi => by
      have := hr.hw.mu i t cells (by have := nth_lt hi; rwa [lenN_eq] at this) hi
      rw [hC] at this
      exact this.resolve_left (fun h => h)
    have hup : Upd Non w w' := by have := hr.hw.up; rw [hC] at this; exact this
    by_cases hnl : (ρ 2).nl = none
    · exact ⟨ρ, hwt, ⟨⟨hup, by rintro q ⟨i, t, cells, hi, rfl⟩; exact hmu i t cells hi, fun x hx => by cases hx⟩, fun h => absurd hnl h⟩⟩
    · obtain ⟨q, hq⟩ := Option.ne_none_iff_exists'.1 hnl
      refine ⟨fun i => if i = 2 then { ρ 2 with blk := (ρ 0).blk } else ρ i, hwt.re (N := 2) (b := (ρ 0).blk) (fun i hi => if_neg hi) hnl (if_pos rfl) ?_ ?_ ?_, ⟨⟨hup, ?_, fun x hx => by cases hx⟩, fun _ => rfl⟩⟩
      · intro t cells mu hi hp
        simp only [en3, zD, rwR, rwE, Option.some.injEq, EN.mk.injEq] at hi
        obtain ⟨rfl, _, _⟩ := hi
        exact hp
      · intro x v hx
        have hb := getS_mem hx
        simp only [slA, List.mem_cons, List.not_mem_nil, or_false, Prod.mk.injEq] at hb
        rcases hb with ⟨_, rfl⟩ | ⟨_, rfl⟩ | ⟨_, rfl⟩ | ⟨_, rfl⟩ | ⟨_, rfl⟩ | ⟨_, rfl⟩
        all_goals first | rfl | (simp only [SV.den, SC.den, rwOf, if_true, hq])
      · intro i t cells mu hi
        match i with
        | 0 => simp only [en3, zD, cnE, Option.some.injEq, EN.mk.injEq] at hi; obtain ⟨_, rfl, _⟩ := hi; rfl
        | 1 => simp only [en3, zD, cnE, Option.some.injEq, EN.mk.injEq] at hi; obtain ⟨_, rfl, _⟩ := hi; rfl
        | 2 => simp only [en3, zD, rwR, rwE, Option.some.injEq, EN.mk.injEq] at hi; obtain ⟨_, rfl, _⟩ := hi; rfl
        | i + 3 => simp [en3, zD] at hi
      · rintro q ⟨i, t, cells, hi, rfl⟩
        match i with
        | 0 => exact hmu 0 t cells hi
        | 1 => exact hmu 1 t cells hi
        | 2 => exact hmu 0 _ _ rfl
        | i + 3 => simp [en3, zD] at hi
  rotate_left
  · rintro ⟨⟨cc, L⟩, hIA⟩ D ρ0 w0 dP dS dw dn dr dk ddf dPan dRet ⟨a0, hwt0⟩ hPJ hX hJ
    have hPd := hP; have hkd := hk; have hctrd := hctr; have hEd := hE
    simp only at hIA
    have hU : ∀ w', Upd D.S D.w0 w' → Upd Non w w' := fun w' hu => by rw [dS, dw] at hu; exact hPJ.pi.hU hu
    have hE : ∀ w', Upd D.S D.w0 w' → EnvT w' := fun w' hu => hE0.below (hU w' hu).to_below
    have hP : D.P = Tryz.prog := by rw [dP]; exact hPd
    have hk : D.kp = kp5 := by rw [dk]; exact hkd
    have hctr : CtrOk D clC := clC_ok hP hE
    have hn0 : D.n0 ≤ zG (en3 cc Cn.zero L) := by rw [dn, lenN_eq]; exact Nat.le_refl _
    have hlen := hIA.len
    have d1 : decide ((L.length : Int) ≤ (b.length : Int)) = true := decide_eq_true (by omega)
    show Run D _ _ (slA b a n c L.length) (en3 cc Cn.zero L)
    simp only [slA]
    (refine VT_ok hctr (rs := res5) true 300 _ _ _ ?_; simp (maxSteps := 1000000) only [VT, jf, jg, jZ, ja, jd, je, VC, qA, qB, qC, qD, qE, qF, qG, qH, qI, qJ, qK, qL, qM, qN, qO, qP, qQ, qR, qS, qT, qU, qV, qW, qX, qY, qZ, qe, qf, qg, qh, qj, qk, ql, qm, qn, qo, qp, qq, q0t, qu, qv, ev, qw, qy, qz, zA, zB, zC, zD, zE, zF, zG, zH, zI, zJ, TE.sv, zK, zL, zM, ↓reduceIte, reduceCtorEq, Value.oneCell', Nat.reduceEqDiff, Nat.reduceAdd, Nat.reduceLT, Nat.reduceBEq, Nat.reduceSub, Nat.reduceLeDiff, zP, zQ, zR, zS, zT, zU, zV, zW, zX, zY, zZ, za, zb, zc, zd, ze, zf, zg, zh, zi, zj, zk, zl, zm, zn, zo, zp, zq, zr, zt, zu, zw, zx, zy, zz, cE, jA, jB, hap, killE, deadOf, rwE, cD, cO, jC, jD, jE, jF, jG, jH, jI, jJ, jK, jL, jM, jN, jO, jP, jQ, jR, jS, jT, jU, jV, jW, jX, jY, hP, hk, res5, kp5, clC, gqZ, gqS, Int.toNat_natCast, Int.toNat_zero, Nat.mul_one, Int.le_refl, beq_self_eq_true, bne_self_eq_false, Bool.not_false, Bool.not_true, d1])
    obtain ⟨x, hx⟩ : ∃ x, x = cnNext cc := ⟨_, rfl⟩
    refine Run_next (G := 0) hIA.ok hx.symm hP hE rfl (by simp [zG, en3]) hn0 rfl (by simp) ?_
    by_cases hok : x.2.2 = true
    rotate_left
    · have hno : (cnNext cc).2.2 = false := by rw [← hx]; simpa using hok
      have hxe := next_no hno
      rw [hxe] at hx
      subst hx
      (refine VT_ok hctr (rs := res5) true 300 _ _ _ ?_; simp (maxSteps := 1000000) only [VT, jf, jg, jZ, ja, jd, je, VC, qA, qB, qC, qD, qE, qF, qG, qH, qI, qJ, qK, qL, qM, qN, qO, qP, qQ, qR, qS, qT, qU, qV, qW, qX, qY, qZ, qe, qf, qg, qh, qj, qk, ql, qm, qn, qo, qp, qq, q0t, qu, qv, ev, qw, qy, qz, zA, zB, zC, zD, zE, zF, zG, zH, zI, zJ, TE.sv, zK, zL, zM, ↓reduceIte, reduceCtorEq, Value.oneCell', Nat.reduceEqDiff, Nat.reduceAdd, Nat.reduceLT, Nat.reduceBEq, Nat.reduceSub, Nat.reduceLeDiff, zP, zQ, zR, zS, zT, zU, zV, zW, zX, zY, zZ, za, zb, zc, zd, ze, zf, zg, zh, zi, zj, zk, zl, zm, zn, zo, zp, zq, zr, zt, zu, zw, zx, zy, zz, cE, jA, jB, hap, killE, deadOf, rwE, cD, cO, jC, jD, jE, jF, jG, jH, jI, jJ, jK, jL, jM, jN, jO, jP, jQ, jR, jS, jT, jU, jV, jW, jX, jY, hP, hk, res5, kp5, clC, gqZ, gqS, Int.toNat_natCast, Int.toNat_zero, Nat.mul_one, Int.le_refl, beq_self_eq_true, bne_self_eq_false, Bool.not_false, Bool.not_true, en3])
      exact hX D (SameQ.refl D) ⟨(cc, L), hIA, hno⟩ rfl fun ρ' a' w' hr => by
        have i2 : ρ' 2 = ρ0 2 := by rw [hr.hw.ini 2 (by rw [dn]; show 2 < 3; decide), dr]
        have i0 : ρ' 0 = ρ0 0 := by rw [hr.hw.ini 0 (by rw [dn]; show 0 < 3; decide), dr]
        have := end3 (sl' := slB b a n c L.length) (c := cc) (d := Cn.zero) (L := L) (p := 2) hr hPJ.pi dS dw rfl rfl rfl (Nat.le_refl 2) ⟨⟨_, rfl, rfl, (by show 2 < 3; decide)⟩, ⟨_, rfl, rfl, (by show 1 < 3; decide)⟩, ⟨_, rfl, rfl, (by show 0 < 3; decide)⟩, ⟨_, rfl, rfl, trivial⟩, ⟨_, rfl, rfl, trivial⟩, trivial⟩ (by rw [i2, i0]; exact hPJ.nl)
        rw [ddf] at this
        exact ⟨_, this.1, this.2⟩
    obtain ⟨cn, r, ok⟩ := x
    simp only at hok
    subst hok
    have hx := hx.symm
    obtain ⟨_, nf, _, nl⟩ := next_feed (x := []) hIA.fit hx (by have := hIA.ok.inp; simp only [List.length_nil]; omega) (next_close hx)
    have nok : CnOk cn := by have := hIA.ok.next; rw [hx] at this; exact this
    refine Run_W (M := RawP) (I := fun p ρ w' => PJ w (L ++ [(r, p)]) (en3 cn Cn.zero L) ρ w') (sl' := fun p => (54, .t [.g (gqP r p), .c (.b true)]) :: slA b a n c L.length) (en' := fun p => en3 cn Cn.zero L) (fun ρ' a' w' hr => ?_) fun p ρ1 w1 ⟨a1, hwt1⟩ hPJ1 => ?_
    · have i2 : ρ' 2 = ρ0 2 := by rw [hr.hw.ini 2 (by rw [dn]; show 2 < 3; decide), dr]
      have i0 : ρ' 0 = ρ0 0 := by rw [hr.hw.ini 0 (by rw [dn]; show 0 < 3; decide), dr]
      have hnl : (ρ' 2).nl ≠ none → (ρ' 2).blk = (ρ' 0).blk := by rw [i2, i0]; exact hPJ.nl
      obtain ⟨p, g1, g2, g3⟩ := raw_new (c := cn) (d := Cn.zero) (L := L) (r := r) (N := 3) (p := 2) hr.hw rfl rfl rfl rfl rfl (Nat.le_refl 2) (by decide) hnl
      have := end3 (sl' := (54, .t [.g (gqP r p), .c (.b true)]) :: slA b a n c L.length) (c := cn) (d := Cn.zero) (L := L) (p := 2) hr hPJ.pi dS dw rfl rfl rfl (Nat.le_refl 2) ⟨⟨_, rfl, (by show Value.tuple _ = Value.tuple _; simp only [List.map_cons, List.map_nil, TE.den]; rw [show dens (fun i => ρ' (ix3 2 i)) (gqP r p) = dens ρ' (gqP r p) from rfl, g2]; rfl), (by intro y hy; simp only [List.mem_cons, List.not_mem_nil, or_false] at hy; rcases hy with rfl | rfl; exact gqP_wf _ _ _; trivial)⟩, ⟨_, rfl, rfl, trivial⟩, ⟨_, rfl, rfl, (by show 2 < 3; decide)⟩, ⟨_, rfl, rfl, (by show 1 < 3; decide)⟩, ⟨_, rfl, rfl, (by show 0 < 3; decide)⟩, ⟨_, rfl, rfl, trivial⟩, ⟨_, rfl, rfl, trivial⟩, trivial⟩ hnl
      exact ⟨p, _, this.1, ⟨this.2.pi.app g1 g3, this.2.nl⟩⟩
    have hE1 : SameQ (cxW D ρ1 w1 (en3 cn Cn.zero L)) D := (SameQ.refl D).cxW _ _ _
    obtain ⟨E, eE⟩ : ∃ E, E = cxW D ρ1 w1 (en3 cn Cn.zero L) := ⟨_, rfl⟩
    rw [← eE] at hE1 ⊢
    have eS : E.S = wrB ρ1 (en3 cn Cn.zero L) := by rw [eE]; rfl
    have ew : E.w0 = w1 := by rw [eE]; rfl
    have hUe : ∀ w', Upd E.S E.w0 w' → Upd Non w w' := fun w' hu => by rw [eS, ew] at hu; exact hPJ1.pi.hU hu
    have hEe : ∀ w', Upd E.S E.w0 w' → EnvT w' := fun w' hu => hE0.below (hUe w' hu).to_below
    have hPD := hP; have hkD := hk; have hctrD := hctr
    have hP : E.P = Tryz.prog := hE1.P.trans hPD
    have hk : E.kp = kp5 := hE1.kp.trans hkD
    have hctr : CtrOk E clC := clC_ok hP hEe
    have hn0e : E.n0 = 3 := by rw [eE]; rfl
    (refine VT_ok hctr (rs := res5) true 300 _ _ _ ?_; simp (maxSteps := 1000000) only [VT, jf, jg, jZ, ja, jd, je, VC, qA, qB, qC, qD, qE, qF, qG, qH, qI, qJ, qK, qL, qM, qN, qO, qP, qQ, qR, qS, qT, qU, qV, qW, qX, qY, qZ, qe, qf, qg, qh, qj, qk, ql, qm, qn, qo, qp, qq, q0t, qu, qv, ev, qw, qy, qz, zA, zB, zC, zD, zE, zF, zG, zH, zI, zJ, TE.sv, zK, zL, zM, ↓reduceIte, reduceCtorEq, Value.oneCell', Nat.reduceEqDiff, Nat.reduceAdd, Nat.reduceLT, Nat.reduceBEq, Nat.reduceSub, Nat.reduceLeDiff, zP, zQ, zR, zS, zT, zU, zV, zW, zX, zY, zZ, za, zb, zc, zd, ze, zf, zg, zh, zi, zj, zk, zl, zm, zn, zo, zp, zq, zr, zt, zu, zw, zx, zy, zz, cE, jA, jB, hap, killE, deadOf, rwE, cD, cO, jC, jD, jE, jF, jG, jH, jI, jJ, jK, jL, jM, jN, jO, jP, jQ, jR, jS, jT, jU, jV, jW, jX, jY, hP, hk, res5, kp5, clC, gqZ, gqS, Int.toNat_natCast, Int.toNat_zero, Nat.mul_one, Int.le_refl, beq_self_eq_true, bne_self_eq_false, Bool.not_false, Bool.not_true, en3, slA, gqP, Nat.reduceMul])
    have hgl : (flatG gpC L).length = L.length * 11 := flatG_len gpC_len L
    obtain ⟨i, hi, hz, hs, hbt⟩ : ∃ i, Tryz.prog.info? 30 = some i ∧ i.zero = some (gqA (.slice none 0 0) (.slice none 0 0) Gq.zero) ∧ i.size = 11 ∧ i.bytes = 144 := by
      have := infoR
      cases hq : Tryz.prog.info? 30 with
      | none => rw [hq] at this; simp at this
      | some i =>
        rw [hq] at this
        simp only [Option.map_some, Option.some.injEq, Prod.mk.injEq] at this
        exact ⟨i, rfl, this.1, this.2.1, this.2.2⟩
    refine append_op (X := .rw 2 L.length) (Y := .sl 4 0 1 1) (o := some 2) (n := L.length) (m := 1) (z := 11) (bts := 144) (cells := flatG gpC L) (news := gqP r p) (e := 30) (by rw [hP]; exact Tryz.underlying38) (by rw [hP]; exact hi) hz hs hbt rfl (by decide) (by show ¬ ((30 : Nat) = DEAD); decide) (.some rfl) rfl rfl (src_sl (c := 4) (o := 0) (L := 11) rfl rfl) rfl rfl (fun pr => gqP_wf pr r p) (by omega) (by omega) (by rw [hn0e]; show 3 ≤ 5; decide) rfl (by simp) ?_
    have p3 : IntKind.i64.wrap ((L.length : Int) + 1) = ((L.length + 1 : Nat) : Int) := by rw [IntWalk.i64_in _ (by omega)]; rfl
    (refine VT_ok hctr (rs := res5) true 300 _ _ _ ?_; simp (maxSteps := 1000000) only [VT, jf, jg, jZ, ja, jd, je, VC, qA, qB, qC, qD, qE, qF, qG, qH, qI, qJ, qK, qL, qM, qN, qO, qP, qQ, qR, qS, qT, qU, qV, qW, qX, qY, qZ, qe, qf, qg, qh, qj, qk, ql, qm, qn, qo, qp, qq, q0t, qu, qv, ev, qw, qy, qz, zA, zB, zC, zD, zE, zF, zG, zH, zI, zJ, TE.sv, zK, zL, zM, ↓reduceIte, reduceCtorEq, Value.oneCell', Nat.reduceEqDiff, Nat.reduceAdd, Nat.reduceLT, Nat.reduceBEq, Nat.reduceSub, Nat.reduceLeDiff, zP, zQ, zR, zS, zT, zU, zV, zW, zX, zY, zZ, za, zb, zc, zd, ze, zf, zg, zh, zi, zj, zk, zl, zm, zn, zo, zp, zq, zr, zt, zu, zw, zx, zy, zz, cE, jA, jB, hap, killE, deadOf, rwE, cD, cO, jC, jD, jE, jF, jG, jH, jI, jJ, jK, jL, jM, jN, jO, jP, jQ, jR, jS, jT, jU, jV, jW, jX, jY, hP, hk, res5, kp5, clC, gqZ, gqS, Int.toNat_natCast, Int.toNat_zero, Nat.mul_one, Int.le_refl, beq_self_eq_true, bne_self_eq_false, Bool.not_false, Bool.not_true, en3, slA, Nat.reduceMul, p3])
    have hl2 : (L ++ [(r, p)]).length = L.length + 1 := by simp
    have hIA2 : IA b cn (L ++ [(r, p)]) := ⟨nok, nf, by rw [hl2]; omega, fun l c' h => by
      rw [List.map_append, List.append_assoc]
      exact hIA.dr _ _ (.cons hx h)⟩
    exact hJ E hE1 ⟨(cn, L ++ [(r, p)]), hIA2⟩ nl fun ρ' a' w' hr => by
      have h5 : (ρ' 5).nl = none := by
        obtain ⟨_, _, h⟩ := hr.hw.ho 5 _ _ _ (by show 5 < 6; decide) rfl
        rcases h with h | h
        · exact h.1
        · exact absurd h.2.1 (by omega)
      have := end3 (sl' := slA b a n c (L.length + 1)) (c := cn) (d := Cn.zero) (L := L ++ [(r, p)]) (p := 5) hr hPJ1.pi eS ew rfl rfl (by show some _ = some (rwR _); rw [rwR, flatG_app, hl2]; rfl) (by decide) ⟨⟨_, rfl, rfl, trivial⟩, ⟨_, rfl, rfl, (by show 2 < 3; decide)⟩, ⟨_, rfl, rfl, (by show 1 < 3; decide)⟩, ⟨_, rfl, rfl, (by show 0 < 3; decide)⟩, ⟨_, rfl, rfl, trivial⟩, ⟨_, rfl, rfl, trivial⟩, trivial⟩ (fun h => absurd h5 h)
      rw [hE1.df, ddf, ← hl2] at this
      exact ⟨_, this.1, this.2⟩
  rintro ⟨⟨cf, L⟩, hIA, hno⟩ ρ2 w2 ⟨a2, hwt2⟩ hPJ2
  simp only at hIA hno
  have hDr : Dr c1 (L.map Prod.fst) cf := by have := hIA.dr [] _ (.nil hno); rw [List.append_nil, ← hc1] at this; exact this
  have hLb := hIA.len
  obtain ⟨E, eE⟩ : ∃ E, E = cxW C ρ2 w2 (en3 cf Cn.zero L) := ⟨_, rfl⟩
  have hE1 : SameQ E C := by rw [eE]; exact (SameQ.refl C).cxW _ _ _
  show Run (cxW C ρ2 w2 (en3 cf Cn.zero L)) _ _ (slB b a n c L.length) (en3 cf Cn.zero L)
  rw [← eE]
  have eS : E.S = wrB ρ2 (en3 cf Cn.zero L) := by rw [eE]; rfl
  have ew : E.w0 = w2 := by rw [eE]; rfl
  have hUe : ∀ w', Upd E.S E.w0 w' → Upd Non w w' := fun w' hu => by rw [eS, ew] at hu; exact hPJ2.pi.hU hu
  have hEe : ∀ w', Upd E.S E.w0 w' → EnvT w' := fun w' hu => hE0.below (hUe w' hu).to_below
  have hPC := hP; have hkC := hk; have hctrC := hctr; have hEC := hE; have hCtxC := hCtx; have hn0C := hn0
  have hP : E.P = Tryz.prog := hE1.P.trans hPC
  have hk : E.kp = kp5 := hE1.kp.trans hkC
  have hctr : CtrOk E clC := clC_ok hP hEe
  have hn0 : E.n0 = 3 := by rw [eE]; rfl
  simp only [slB]
  (refine VT_ok hctr (rs := res5) true 300 _ _ _ ?_; simp (maxSteps := 1000000) only [VT, jf, jg, jZ, ja, jd, je, VC, qA, qB, qC, qD, qE, qF, qG, qH, qI, qJ, qK, qL, qM, qN, qO, qP, qQ, qR, qS, qT, qU, qV, qW, qX, qY, qZ, qe, qf, qg, qh, qj, qk, ql, qm, qn, qo, qp, qq, q0t, qu, qv, ev, qw, qy, qz, zA, zB, zC, zD, zE, zF, zG, zH, zI, zJ, TE.sv, zK, zL, zM, ↓reduceIte, reduceCtorEq, Value.oneCell', Nat.reduceEqDiff, Nat.reduceAdd, Nat.reduceLT, Nat.reduceBEq, Nat.reduceSub, Nat.reduceLeDiff, zP, zQ, zR, zS, zT, zU, zV, zW, zX, zY, zZ, za, zb, zc, zd, ze, zf, zg, zh, zi, zj, zk, zl, zm, zn, zo, zp, zq, zr, zt, zu, zw, zx, zy, zz, cE, jA, jB, hap, killE, deadOf, rwE, cD, cO, jC, jD, jE, jF, jG, jH, jI, jJ, jK, jL, jM, jN, jO, jP, jQ, jR, jS, jT, jU, jV, jW, jX, jY, hP, hk, res5, kp5, clC, gqZ, gqS, Int.toNat_natCast, Int.toNat_zero, Nat.mul_one, Int.le_refl, beq_self_eq_true, bne_self_eq_false, Bool.not_false, Bool.not_true])
  have hIB0 : IB b cf L 0 0 0 Cn.zero := ⟨Nat.zero_le _, Nat.le_refl _, Nat.zero_le _, CnOk.zero, fit_zero, Nat.le_refl _, by rw [List.drop_zero, List.drop_zero, ← hc1]; exact hDr, next_zero⟩
  refine Run_loopW (ι := { y : Nat × Nat × Nat × Cn // IB b cf L y.1 y.2.1 y.2.2.1 y.2.2.2 }) (κ := Unit) 2 (fun y => slC b a n c L.length y.1.1 y.1.2.1 y.1.2.2.1) (fun y => en3 cf y.1.2.2.2 L) (fun y ρ w' => PJ w L (en3 cf y.1.2.2.2 L) ρ w') (fun y => b.length - y.1.1) ⟨(0, 0, 0, Cn.zero), hIB0⟩ (fun _ => slD L.length L.length) (fun _ => en3 cf cf L) (fun _ ρ w' => PJ w L (en3 cf cf L) ρ w') rfl ?_ ?_ ?_
  · intro ρ' act w' hr
    have i2 : ρ' 2 = ρ2 2 := by rw [hr.hw.ini 2 (by rw [hn0]; decide), eE]; rfl
    have i0 : ρ' 0 = ρ2 0 := by rw [hr.hw.ini 0 (by rw [hn0]; decide), eE]; rfl
    have := end3 (sl' := slC b a n c L.length 0 0 0) (c := cf) (d := Cn.zero) (L := L) (p := 2) hr hPJ2.pi eS ew rfl rfl rfl (Nat.le_refl 2) ⟨⟨_, rfl, rfl, trivial⟩, ⟨_, rfl, rfl, trivial⟩, ⟨_, rfl, rfl, trivial⟩, ⟨_, rfl, rfl, (by show 2 < 3; decide)⟩, ⟨_, rfl, rfl, (by show 1 < 3; decide)⟩, ⟨_, rfl, rfl, (by show 0 < 3; decide)⟩, ⟨_, rfl, rfl, trivial⟩, ⟨_, rfl, rfl, trivial⟩, trivial⟩ (by rw [i2, i0]; exact hPJ2.nl)
    exact ⟨_, this.1, this.2⟩
  rotate_left
  · rintro ⟨⟨t, n1, i1, d⟩, hIB⟩ D ρ3 w3 dP dS dw dn dr dk ddf dPan dRet ⟨a3, hwt3⟩ hPJ3 hX hJ
    simp only at hIB
    have hPE := hP; have hkE := hk; have hctrE := hctr; have hEE := hE; have hn0E := hn0
    have hU : ∀ w', Upd D.S D.w0 w' → Upd Non w w' := fun w' hu => by rw [dS, dw] at hu; exact hPJ3.pi.hU hu
    have hE : ∀ w', Upd D.S D.w0 w' → EnvT w' := fun w' hu => hE0.below (hU w' hu).to_below
    have hP : D.P = Tryz.prog := by rw [dP]; exact hPE
    have hk : D.kp = kp5 := by rw [dk]; exact hkE
    have hctr : CtrOk D clC := clC_ok hP hE
    have hn0 : D.n0 = 3 := by rw [dn]; rfl
    obtain ⟨b1, b2, b3, b4, b5, b6, b7, b8⟩ := hIB
    show Run D _ _ (slC b a n c L.length t n1 i1) (en3 cf d L)
    simp only [slC]
    by_cases hlt : t < b.length
    rotate_left
    · have d1 : decide ((t : Int) < (b.length : Int)) = false := decide_eq_false (by omega)
      (refine VT_ok hctr (rs := res5) true 300 _ _ _ ?_; simp (maxSteps := 1000000) only [VT, jf, jg, jZ, ja, jd, je, VC, qA, qB, qC, qD, qE, qF, qG, qH, qI, qJ, qK, qL, qM, qN, qO, qP, qQ, qR, qS, qT, qU, qV, qW, qX, qY, qZ, qe, qf, qg, qh, qj, qk, ql, qm, qn, qo, qp, qq, q0t, qu, qv, ev, qw, qy, qz, zA, zB, zC, zD, zE, zF, zG, zH, zI, zJ, TE.sv, zK, zL, zM, ↓reduceIte, reduceCtorEq, Value.oneCell', Nat.reduceEqDiff, Nat.reduceAdd, Nat.reduceLT, Nat.reduceBEq, Nat.reduceSub, Nat.reduceLeDiff, zP, zQ, zR, zS, zT, zU, zV, zW, zX, zY, zZ, za, zb, zc, zd, ze, zf, zg, zh, zi, zj, zk, zl, zm, zn, zo, zp, zq, zr, zt, zu, zw, zx, zy, zz, cE, jA, jB, hap, killE, deadOf, rwE, cD, cO, jC, jD, jE, jF, jG, jH, jI, jJ, jK, jL, jM, jN, jO, jP, jQ, jR, jS, jT, jU, jV, jW, jX, jY, hP, hk, res5, kp5, clC, gqZ, gqS, Int.toNat_natCast, Int.toNat_zero, Nat.mul_one, Int.le_refl, beq_self_eq_true, bne_self_eq_false, Bool.not_false, Bool.not_true, d1])
      have ht : b.drop t = [] := List.drop_of_length_le (by omega)
      rw [ht, feed_nil b5] at b7
      obtain ⟨q1, rfl⟩ := b7.nil_inv b8
      have hn1 : n1 = L.length := by have := congrArg List.length q1; rw [List.length_drop, List.length_map, List.length_nil] at this; omega
      subst hn1
      exact hX D (SameQ.refl D) () rfl fun ρ' a' w' hr => by
        have i2 : ρ' 2 = ρ3 2 := by rw [hr.hw.ini 2 (by rw [hn0]; decide), dr]
        have i0 : ρ' 0 = ρ3 0 := by rw [hr.hw.ini 0 (by rw [hn0]; decide), dr]
        have := end3 (sl' := slD L.length L.length) (c := cf) (d := cf) (L := L) (p := 2) hr hPJ3.pi dS dw rfl rfl rfl (Nat.le_refl 2) ⟨⟨_, rfl, rfl, trivial⟩, ⟨_, rfl, rfl, (by show 2 < 3; decide)⟩, ⟨_, rfl, rfl, (by show 1 < 3; decide)⟩, ⟨_, rfl, rfl, (by show 0 < 3; decide)⟩, trivial⟩ (by rw [i2, i0]; exact hPJ3.nl)
        rw [ddf] at this
        exact ⟨_, this.1, this.2⟩
    have d1 : decide ((t : Int) < (b.length : Int)) = true := decide_eq_true (by omega)
    (refine VT_ok hctr (rs := res5) true 24 _ _ _ ?_; simp (maxSteps := 1000000) only [VT, jf, jg, jZ, ja, jd, je, VC, qA, qB, qC, qD, qE, qF, qG, qH, qI, qJ, qK, qL, qM, qN, qO, qP, qQ, qR, qS, qT, qU, qV, qW, qX, qY, qZ, qe, qf, qg, qh, qj, qk, ql, qm, qn, qo, qp, qq, q0t, qu, qv, ev, qw, qy, qz, zA, zB, zC, zD, zE, zF, zG, zH, zI, zJ, TE.sv, zK, zL, zM, ↓reduceIte, reduceCtorEq, Value.oneCell', Nat.reduceEqDiff, Nat.reduceAdd, Nat.reduceLT, Nat.reduceBEq, Nat.reduceSub, Nat.reduceLeDiff, zP, zQ, zR, zS, zT, zU, zV, zW, zX, zY, zZ, za, zb, zc, zd, ze, zf, zg, zh, zi, zj, zk, zl, zm, zn, zo, zp, zq, zr, zt, zu, zw, zx, zy, zz, cE, jA, jB, hap, killE, deadOf, rwE, cD, cO, jC, jD, jE, jF, jG, jH, jI, jJ, jK, jL, jM, jN, jO, jP, jQ, jR, jS, jT, jU, jV, jW, jX, jY, hP, hk, res5, kp5, clC, gqZ, gqS, Int.toNat_natCast, Int.toNat_zero, Nat.mul_one, Int.le_refl, beq_self_eq_true, bne_self_eq_false, Bool.not_false, Bool.not_true, d1])
    refine Run_join (κ := Int) (fun z => (15, .c (.i .i64 z)) :: slC b a n c L.length t n1 i1) (fun _ => en3 cf d L) (fun z => ?_) fun use => ?_
    rotate_left
    · by_cases hin : i1 < n
      · have d2 : decide ((i1 : Int) < (n : Int)) = true := decide_eq_true (by omega)
        obtain ⟨bq, oq, z, ha, r1⟩ := hraw.rdU hU hin
        subst ha
        have d3 : (0 : Int) ≤ (i1 : Int) := by omega
        have d4 : (i1 : Int) < (n : Int) := by omega
        (refine VT_ok hctr (rs := res5) true 8 _ _ _ ?_; simp (maxSteps := 1000000) only [VT, jf, jg, jZ, ja, jd, je, VC, qA, qB, qC, qD, qE, qF, qG, qH, qI, qJ, qK, qL, qM, qN, qO, qP, qQ, qR, qS, qT, qU, qV, qW, qX, qY, qZ, qe, qf, qg, qh, qj, qk, ql, qm, qn, qo, qp, qq, q0t, qu, qv, ev, qw, qy, qz, zA, zB, zC, zD, zE, zF, zG, zH, zI, zJ, TE.sv, zK, zL, zM, ↓reduceIte, reduceCtorEq, Value.oneCell', Nat.reduceEqDiff, Nat.reduceAdd, Nat.reduceLT, Nat.reduceBEq, Nat.reduceSub, Nat.reduceLeDiff, zP, zQ, zR, zS, zT, zU, zV, zW, zX, zY, zZ, za, zb, zc, zd, ze, zf, zg, zh, zi, zj, zk, zl, zm, zn, zo, zp, zq, zr, zt, zu, zw, zx, zy, zz, cE, jA, jB, hap, killE, deadOf, rwE, cD, cO, jC, jD, jE, jF, jG, jH, jI, jJ, jK, jL, jM, jN, jO, jP, jQ, jR, jS, jT, jU, jV, jW, jX, jY, hP, hk, res5, kp5, clC, gqZ, gqS, Int.toNat_natCast, Int.toNat_zero, Nat.mul_one, Int.le_refl, beq_self_eq_true, bne_self_eq_false, Bool.not_false, Bool.not_true, d2, r1, d3, d4])
        exact use z _ (sub_mk ⟨rfl, rfl, rfl, rfl, rfl, rfl, rfl, rfl, rfl, trivial⟩)
      · have d2 : decide ((i1 : Int) < (n : Int)) = false := decide_eq_false (by omega)
        (refine VT_ok hctr (rs := res5) true 6 _ _ _ ?_; simp (maxSteps := 1000000) only [VT, jf, jg, jZ, ja, jd, je, VC, qA, qB, qC, qD, qE, qF, qG, qH, qI, qJ, qK, qL, qM, qN, qO, qP, qQ, qR, qS, qT, qU, qV, qW, qX, qY, qZ, qe, qf, qg, qh, qj, qk, ql, qm, qn, qo, qp, qq, q0t, qu, qv, ev, qw, qy, qz, zA, zB, zC, zD, zE, zF, zG, zH, zI, zJ, TE.sv, zK, zL, zM, ↓reduceIte, reduceCtorEq, Value.oneCell', Nat.reduceEqDiff, Nat.reduceAdd, Nat.reduceLT, Nat.reduceBEq, Nat.reduceSub, Nat.reduceLeDiff, zP, zQ, zR, zS, zT, zU, zV, zW, zX, zY, zZ, za, zb, zc, zd, ze, zf, zg, zh, zi, zj, zk, zl, zm, zn, zo, zp, zq, zr, zt, zu, zw, zx, zy, zz, cE, jA, jB, hap, killE, deadOf, rwE, cD, cO, jC, jD, jE, jF, jG, jH, jI, jJ, jK, jL, jM, jN, jO, jP, jQ, jR, jS, jT, jU, jV, jW, jX, jY, hP, hk, res5, kp5, clC, gqZ, gqS, Int.toNat_natCast, Int.toNat_zero, Nat.mul_one, Int.le_refl, beq_self_eq_true, bne_self_eq_false, Bool.not_false, Bool.not_true, d2])
        exact use _ _ (sub_mk ⟨rfl, rfl, rfl, rfl, rfl, rfl, rfl, rfl, rfl, trivial⟩)
    simp only [slC]
    (refine VT_ok hctr (rs := res5) true 6 _ _ _ ?_; simp (maxSteps := 1000000) only [VT, jf, jg, jZ, ja, jd, je, VC, qA, qB, qC, qD, qE, qF, qG, qH, qI, qJ, qK, qL, qM, qN, qO, qP, qQ, qR, qS, qT, qU, qV, qW, qX, qY, qZ, qe, qf, qg, qh, qj, qk, ql, qm, qn, qo, qp, qq, q0t, qu, qv, ev, qw, qy, qz, zA, zB, zC, zD, zE, zF, zG, zH, zI, zJ, TE.sv, zK, zL, zM, ↓reduceIte, reduceCtorEq, Value.oneCell', Nat.reduceEqDiff, Nat.reduceAdd, Nat.reduceLT, Nat.reduceBEq, Nat.reduceSub, Nat.reduceLeDiff, zP, zQ, zR, zS, zT, zU, zV, zW, zX, zY, zZ, za, zb, zc, zd, ze, zf, zg, zh, zi, zj, zk, zl, zm, zn, zo, zp, zq, zr, zt, zu, zw, zx, zy, zz, cE, jA, jB, hap, killE, deadOf, rwE, cD, cO, jC, jD, jE, jF, jG, jH, jI, jJ, jK, jL, jM, jN, jO, jP, jQ, jR, jS, jT, jU, jV, jW, jX, jY, hP, hk, res5, kp5, clC, gqZ, gqS, Int.toNat_natCast, Int.toNat_zero, Nat.mul_one, Int.le_refl, beq_self_eq_true, bne_self_eq_false, Bool.not_false, Bool.not_true])
    refine Run_join (κ := { z : Int // 1 ≤ z }) (fun z => (15, .c (.i .i64 z.1)) :: slC b a n c L.length t n1 i1) (fun _ => en3 cf d L) (fun z' => ?_) fun use => ?_
    rotate_left
    · by_cases hz : z < 1
      · have d2 : decide (z < 1) = true := decide_eq_true hz
        (refine VT_ok hctr (rs := res5) true 4 _ _ _ ?_; simp (maxSteps := 1000000) only [VT, jf, jg, jZ, ja, jd, je, VC, qA, qB, qC, qD, qE, qF, qG, qH, qI, qJ, qK, qL, qM, qN, qO, qP, qQ, qR, qS, qT, qU, qV, qW, qX, qY, qZ, qe, qf, qg, qh, qj, qk, ql, qm, qn, qo, qp, qq, q0t, qu, qv, ev, qw, qy, qz, zA, zB, zC, zD, zE, zF, zG, zH, zI, zJ, TE.sv, zK, zL, zM, ↓reduceIte, reduceCtorEq, Value.oneCell', Nat.reduceEqDiff, Nat.reduceAdd, Nat.reduceLT, Nat.reduceBEq, Nat.reduceSub, Nat.reduceLeDiff, zP, zQ, zR, zS, zT, zU, zV, zW, zX, zY, zZ, za, zb, zc, zd, ze, zf, zg, zh, zi, zj, zk, zl, zm, zn, zo, zp, zq, zr, zt, zu, zw, zx, zy, zz, cE, jA, jB, hap, killE, deadOf, rwE, cD, cO, jC, jD, jE, jF, jG, jH, jI, jJ, jK, jL, jM, jN, jO, jP, jQ, jR, jS, jT, jU, jV, jW, jX, jY, hP, hk, res5, kp5, clC, gqZ, gqS, Int.toNat_natCast, Int.toNat_zero, Nat.mul_one, Int.le_refl, beq_self_eq_true, bne_self_eq_false, Bool.not_false, Bool.not_true, d2])
        exact use ⟨1, by decide⟩ _ (sub_mk ⟨rfl, rfl, rfl, rfl, rfl, rfl, rfl, rfl, rfl, trivial⟩)
      · have d2 : decide (z < 1) = false := decide_eq_false hz
        (refine VT_ok hctr (rs := res5) true 2 _ _ _ ?_; simp (maxSteps := 1000000) only [VT, jf, jg, jZ, ja, jd, je, VC, qA, qB, qC, qD, qE, qF, qG, qH, qI, qJ, qK, qL, qM, qN, qO, qP, qQ, qR, qS, qT, qU, qV, qW, qX, qY, qZ, qe, qf, qg, qh, qj, qk, ql, qm, qn, qo, qp, qq, q0t, qu, qv, ev, qw, qy, qz, zA, zB, zC, zD, zE, zF, zG, zH, zI, zJ, TE.sv, zK, zL, zM, ↓reduceIte, reduceCtorEq, Value.oneCell', Nat.reduceEqDiff, Nat.reduceAdd, Nat.reduceLT, Nat.reduceBEq, Nat.reduceSub, Nat.reduceLeDiff, zP, zQ, zR, zS, zT, zU, zV, zW, zX, zY, zZ, za, zb, zc, zd, ze, zf, zg, zh, zi, zj, zk, zl, zm, zn, zo, zp, zq, zr, zt, zu, zw, zx, zy, zz, cE, jA, jB, hap, killE, deadOf, rwE, cD, cO, jC, jD, jE, jF, jG, jH, jI, jJ, jK, jL, jM, jN, jO, jP, jQ, jR, jS, jT, jU, jV, jW, jX, jY, hP, hk, res5, kp5, clC, gqZ, gqS, Int.toNat_natCast, Int.toNat_zero, Nat.mul_one, Int.le_refl, beq_self_eq_true, bne_self_eq_false, Bool.not_false, Bool.not_true, d2])
        exact use ⟨z, by omega⟩ _ (sub_mk ⟨rfl, rfl, rfl, rfl, rfl, rfl, rfl, rfl, rfl, trivial⟩)
    clear z
    obtain ⟨z, hz⟩ := z'
    simp only [slC]
    have d3 : IntKind.i64.wrap ((b.length : Int) - (t : Int)) = ((b.length - t : Nat) : Int) := by rw [IntWalk.i64_in _ (by omega)]; omega
    obtain ⟨k, hk1, hk2, d4⟩ : ∃ k : Nat, 1 ≤ k ∧ t + k ≤ b.length ∧ (if ((b.length - t : Nat) : Int) < z then ((b.length - t : Nat) : Int) else z) = (k : Int) := by
      by_cases h : ((b.length - t : Nat) : Int) < z
      · exact ⟨b.length - t, by omega, by omega, if_pos h⟩
      · exact ⟨z.toNat, by omega, by omega, by rw [if_neg h]; omega⟩
    have d5 : IntKind.i64.wrap ((t : Int) + (k : Int)) = ((t + k : Nat) : Int) := by rw [IntWalk.i64_in _ (by omega)]; rfl
    have d6 : (0 : Int) ≤ (t : Int) := by omega
    have d7 : (t : Int) ≤ ((t + k : Nat) : Int) := by omega
    have d8 : ((t + k : Nat) : Int) ≤ (b.length : Int) := by omega
    obtain ⟨x, hx⟩ : ∃ x, x = (b.drop t).take k := ⟨_, rfl⟩
    have d9 : (b.take (t + k)).drop t = x := by rw [hx, List.drop_take, Nat.add_sub_cancel_left]
    have hxl : x.length = k := by rw [hx, List.length_take, List.length_drop]; omega
    have hxy : b.drop t = x ++ b.drop (t + k) := by rw [hx, ← List.drop_drop, List.take_append_drop]
    have hyl : (b.drop (t + k)).length = b.length - (t + k) := List.length_drop
    (refine VT_ok hctr (rs := res5) true 300 _ _ _ ?_; simp (maxSteps := 1000000) only [VT, jf, jg, jZ, ja, jd, je, VC, qA, qB, qC, qD, qE, qF, qG, qH, qI, qJ, qK, qL, qM, qN, qO, qP, qQ, qR, qS, qT, qU, qV, qW, qX, qY, qZ, qe, qf, qg, qh, qj, qk, ql, qm, qn, qo, qp, qq, q0t, qu, qv, ev, qw, qy, qz, zA, zB, zC, zD, zE, zF, zG, zH, zI, zJ, TE.sv, zK, zL, zM, ↓reduceIte, reduceCtorEq, Value.oneCell', Nat.reduceEqDiff, Nat.reduceAdd, Nat.reduceLT, Nat.reduceBEq, Nat.reduceSub, Nat.reduceLeDiff, zP, zQ, zR, zS, zT, zU, zV, zW, zX, zY, zZ, za, zb, zc, zd, ze, zf, zg, zh, zi, zj, zk, zl, zm, zn, zo, zp, zq, zr, zt, zu, zw, zx, zy, zz, cE, jA, jB, hap, killE, deadOf, rwE, cD, cO, jC, jD, jE, jF, jG, jH, jI, jJ, jK, jL, jM, jN, jO, jP, jQ, jR, jS, jT, jU, jV, jW, jX, jY, hP, hk, res5, kp5, clC, gqZ, gqS, Int.toNat_natCast, Int.toNat_zero, Nat.mul_one, Int.le_refl, beq_self_eq_true, bne_self_eq_false, Bool.not_false, Bool.not_true, d3, d4, d5, d6, d7, d8, d9])
    obtain ⟨d', hd'⟩ : ∃ d', d' = cnFeed d x := ⟨_, rfl⟩
    refine Run_cn (N := 1) (c := d) d'.1 (ys := [.c (.s x)]) (.c (.i .i64 d'.2)) rfl hP rfl (by simp [zG, en3]) (fun args w => Tryz.call11 args w) (fun pr => by simp [SV.wf, SC.wf, TE.wf]) (fun ρ w g h => by have := feed_w b4 x (by omega) h; rw [← hd'] at this; exact this) rfl (by simp) ?_
    obtain ⟨f1, f2, f3, f4⟩ := feed_fit b5 (x := x) (by omega)
    rw [← hd'] at f1 f2 f3 f4
    have fok : CnOk d'.1 := by rw [hd']; exact b4.feed x
    have hdr' : Dr (cnFeed d'.1 (b.drop (t + k))).1 ((L.map Prod.fst).drop n1) cf := by rw [hd', ← feed_app b5 (by omega), ← hxy]; exact b7
    (refine VT_ok hctr (rs := res5) true 3 _ _ _ ?_; simp (maxSteps := 1000000) only [VT, jf, jg, jZ, ja, jd, je, VC, qA, qB, qC, qD, qE, qF, qG, qH, qI, qJ, qK, qL, qM, qN, qO, qP, qQ, qR, qS, qT, qU, qV, qW, qX, qY, qZ, qe, qf, qg, qh, qj, qk, ql, qm, qn, qo, qp, qq, q0t, qu, qv, ev, qw, qy, qz, zA, zB, zC, zD, zE, zF, zG, zH, zI, zJ, TE.sv, zK, zL, zM, ↓reduceIte, reduceCtorEq, Value.oneCell', Nat.reduceEqDiff, Nat.reduceAdd, Nat.reduceLT, Nat.reduceBEq, Nat.reduceSub, Nat.reduceLeDiff, zP, zQ, zR, zS, zT, zU, zV, zW, zX, zY, zZ, za, zb, zc, zd, ze, zf, zg, zh, zi, zj, zk, zl, zm, zn, zo, zp, zq, zr, zt, zu, zw, zx, zy, zz, cE, jA, jB, hap, killE, deadOf, rwE, cD, cO, jC, jD, jE, jF, jG, jH, jI, jJ, jK, jL, jM, jN, jO, jP, jQ, jR, jS, jT, jU, jV, jW, jX, jY, hP, hk, res5, kp5, clC, gqZ, gqS, Int.toNat_natCast, Int.toNat_zero, Nat.mul_one, Int.le_refl, beq_self_eq_true, bne_self_eq_false, Bool.not_false, Bool.not_true, en3, d3, d4, d5, d6, d7, d8, d9])
    refine Run_join (κ := Unit) (fun _ => (15, .c (.i .i64 (k : Int))) :: slC b a n c L.length t n1 i1) (fun _ => en3 cf d'.1 L) (fun _ => ?_) fun use => ?_
    rotate_left
    · cases hen : d.ends with
      | true =>
        have hd2 : cnFeed d x = (d, 0) := by unfold cnFeed; rw [if_pos hen]
        rw [hd2] at hd'
        subst hd'
        have e1 : (0 : Int) != (k : Int) := by simp; omega
        have e2 : ((0 : Int) == (k : Int)) = false := by simp; omega
        (refine VT_ok hctr (rs := res5) true 300 _ _ _ ?_; simp (maxSteps := 1000000) only [VT, jf, jg, jZ, ja, jd, je, VC, qA, qB, qC, qD, qE, qF, qG, qH, qI, qJ, qK, qL, qM, qN, qO, qP, qQ, qR, qS, qT, qU, qV, qW, qX, qY, qZ, qe, qf, qg, qh, qj, qk, ql, qm, qn, qo, qp, qq, q0t, qu, qv, ev, qw, qy, qz, zA, zB, zC, zD, zE, zF, zG, zH, zI, zJ, TE.sv, zK, zL, zM, ↓reduceIte, reduceCtorEq, Value.oneCell', Nat.reduceEqDiff, Nat.reduceAdd, Nat.reduceLT, Nat.reduceBEq, Nat.reduceSub, Nat.reduceLeDiff, zP, zQ, zR, zS, zT, zU, zV, zW, zX, zY, zZ, za, zb, zc, zd, ze, zf, zg, zh, zi, zj, zk, zl, zm, zn, zo, zp, zq, zr, zt, zu, zw, zx, zy, zz, cE, jA, jB, hap, killE, deadOf, rwE, cD, cO, jC, jD, jE, jF, jG, jH, jI, jJ, jK, jL, jM, jN, jO, jP, jQ, jR, jS, jT, jU, jV, jW, jX, jY, hP, hk, res5, kp5, clC, gqZ, gqS, Int.toNat_natCast, Int.toNat_zero, Nat.mul_one, Int.le_refl, beq_self_eq_true, bne_self_eq_false, Bool.not_false, Bool.not_true, e1, e2])
        refine Run_cn (N := 1) (c := d) d (ys := []) (.c (.b true)) rfl hP rfl (by simp [zG, en3]) (fun args w => Tryz.call16 args w) (fun pr => by simp [SV.wf, SC.wf, TE.wf]) (fun ρ w g h => by have := ends_w h; rw [hen] at this; exact this) rfl (by simp) ?_
        (refine VT_ok hctr (rs := res5) true 5 _ _ _ ?_; simp (maxSteps := 1000000) only [VT, jf, jg, jZ, ja, jd, je, VC, qA, qB, qC, qD, qE, qF, qG, qH, qI, qJ, qK, qL, qM, qN, qO, qP, qQ, qR, qS, qT, qU, qV, qW, qX, qY, qZ, qe, qf, qg, qh, qj, qk, ql, qm, qn, qo, qp, qq, q0t, qu, qv, ev, qw, qy, qz, zA, zB, zC, zD, zE, zF, zG, zH, zI, zJ, TE.sv, zK, zL, zM, ↓reduceIte, reduceCtorEq, Value.oneCell', Nat.reduceEqDiff, Nat.reduceAdd, Nat.reduceLT, Nat.reduceBEq, Nat.reduceSub, Nat.reduceLeDiff, zP, zQ, zR, zS, zT, zU, zV, zW, zX, zY, zZ, za, zb, zc, zd, ze, zf, zg, zh, zi, zj, zk, zl, zm, zn, zo, zp, zq, zr, zt, zu, zw, zx, zy, zz, cE, jA, jB, hap, killE, deadOf, rwE, cD, cO, jC, jD, jE, jF, jG, jH, jI, jJ, jK, jL, jM, jN, jO, jP, jQ, jR, jS, jT, jU, jV, jW, jX, jY, hP, hk, res5, kp5, clC, gqZ, gqS, Int.toNat_natCast, Int.toNat_zero, Nat.mul_one, Int.le_refl, beq_self_eq_true, bne_self_eq_false, Bool.not_false, Bool.not_true, en3])
        exact use () _ (sub_mk ⟨rfl, rfl, rfl, rfl, rfl, rfl, rfl, rfl, rfl, trivial⟩)
      | false =>
        have hd2 : d'.2 = (k : Int) := by rw [hd', feed_room b5 hen (by omega), hxl]
        (refine VT_ok hctr (rs := res5) true 13 _ _ _ ?_; simp (maxSteps := 1000000) only [VT, jf, jg, jZ, ja, jd, je, VC, qA, qB, qC, qD, qE, qF, qG, qH, qI, qJ, qK, qL, qM, qN, qO, qP, qQ, qR, qS, qT, qU, qV, qW, qX, qY, qZ, qe, qf, qg, qh, qj, qk, ql, qm, qn, qo, qp, qq, q0t, qu, qv, ev, qw, qy, qz, zA, zB, zC, zD, zE, zF, zG, zH, zI, zJ, TE.sv, zK, zL, zM, ↓reduceIte, reduceCtorEq, Value.oneCell', Nat.reduceEqDiff, Nat.reduceAdd, Nat.reduceLT, Nat.reduceBEq, Nat.reduceSub, Nat.reduceLeDiff, zP, zQ, zR, zS, zT, zU, zV, zW, zX, zY, zZ, za, zb, zc, zd, ze, zf, zg, zh, zi, zj, zk, zl, zm, zn, zo, zp, zq, zr, zt, zu, zw, zx, zy, zz, cE, jA, jB, hap, killE, deadOf, rwE, cD, cO, jC, jD, jE, jF, jG, jH, jI, jJ, jK, jL, jM, jN, jO, jP, jQ, jR, jS, jT, jU, jV, jW, jX, jY, hP, hk, res5, kp5, clC, gqZ, gqS, Int.toNat_natCast, Int.toNat_zero, Nat.mul_one, Int.le_refl, beq_self_eq_true, bne_self_eq_false, Bool.not_false, Bool.not_true, hd2])
        exact use () _ (sub_mk ⟨rfl, rfl, rfl, rfl, rfl, rfl, rfl, rfl, rfl, trivial⟩)
    simp only [slC]
    (refine VT_ok hctr (rs := res5) true 300 _ _ _ ?_; simp (maxSteps := 1000000) only [VT, jf, jg, jZ, ja, jd, je, VC, qA, qB, qC, qD, qE, qF, qG, qH, qI, qJ, qK, qL, qM, qN, qO, qP, qQ, qR, qS, qT, qU, qV, qW, qX, qY, qZ, qe, qf, qg, qh, qj, qk, ql, qm, qn, qo, qp, qq, q0t, qu, qv, ev, qw, qy, qz, zA, zB, zC, zD, zE, zF, zG, zH, zI, zJ, TE.sv, zK, zL, zM, ↓reduceIte, reduceCtorEq, Value.oneCell', Nat.reduceEqDiff, Nat.reduceAdd, Nat.reduceLT, Nat.reduceBEq, Nat.reduceSub, Nat.reduceLeDiff, zP, zQ, zR, zS, zT, zU, zV, zW, zX, zY, zZ, za, zb, zc, zd, ze, zf, zg, zh, zi, zj, zk, zl, zm, zn, zo, zp, zq, zr, zt, zu, zw, zx, zy, zz, cE, jA, jB, hap, killE, deadOf, rwE, cD, cO, jC, jD, jE, jF, jG, jH, jI, jJ, jK, jL, jM, jN, jO, jP, jQ, jR, jS, jT, jU, jV, jW, jX, jY, hP, hk, res5, kp5, clC, gqZ, gqS, Int.toNat_natCast, Int.toNat_zero, Nat.mul_one, Int.le_refl, beq_self_eq_true, bne_self_eq_false, Bool.not_false, Bool.not_true, d5])
    refine Run_loopW (ι := { y : Nat × Cn × Bool // IC b cf L (t + k) y.1 y.2.1 y.2.2 }) (κ := { y : Nat × Cn // IC b cf L (t + k) y.1 y.2 false }) 4 (fun y => slE b a n c L.length (t + k) y.1.1 i1 y.1.2.2) (fun y => en3 cf y.1.2.1 L) (fun y ρ w' => PJ w L (en3 cf y.1.2.1 L) ρ w') (fun y => 2 * y.1.2.1.inp.length + (if y.1.2.2 then 1 else 0)) ⟨(n1, d'.1, true), ⟨b3, fok, f1, by show d'.1.inp.length ≤ t + k; omega, hdr', fun h => by cases h⟩⟩ (fun y => slC b a n c L.length (t + k) y.1.1 i1) (fun y => en3 cf y.1.2 L) (fun y ρ w' => PJ w L (en3 cf y.1.2 L) ρ w') rfl ?_ ?_ ?_
    · intro ρ' act w' hr
      have i2 : ρ' 2 = ρ3 2 := by rw [hr.hw.ini 2 (by rw [hn0]; decide), dr]
      have i0 : ρ' 0 = ρ3 0 := by rw [hr.hw.ini 0 (by rw [hn0]; decide), dr]
      have := end3 (sl' := slE b a n c L.length (t + k) n1 i1 true) (c := cf) (d := d'.1) (L := L) (p := 2) hr hPJ3.pi dS dw rfl rfl rfl (Nat.le_refl 2) ⟨⟨_, rfl, rfl, trivial⟩, ⟨_, rfl, rfl, trivial⟩, ⟨_, rfl, rfl, trivial⟩, ⟨_, rfl, rfl, trivial⟩, ⟨_, rfl, rfl, (by show 2 < 3; decide)⟩, ⟨_, rfl, rfl, (by show 1 < 3; decide)⟩, ⟨_, rfl, rfl, (by show 0 < 3; decide)⟩, ⟨_, rfl, rfl, trivial⟩, ⟨_, rfl, rfl, trivial⟩, trivial⟩ (by rw [i2, i0]; exact hPJ3.nl)
      exact ⟨_, this.1, this.2⟩
    · rintro ⟨⟨n2, d2⟩, hIC⟩ ρ4 w4 ⟨a4, hwt4⟩ hPJ4
      simp only at hIC
      obtain ⟨E4, eE4⟩ : ∃ E4, E4 = cxW D ρ4 w4 (en3 cf d2 L) := ⟨_, rfl⟩
      have hE4 : SameQ E4 D := by rw [eE4]; exact (SameQ.refl D).cxW _ _ _
      show Run (cxW D ρ4 w4 (en3 cf d2 L)) _ _ (slC b a n c L.length (t + k) n2 i1) (en3 cf d2 L)
      rw [← eE4]
      have eS : E4.S = wrB ρ4 (en3 cf d2 L) := by rw [eE4]; rfl
      have ew : E4.w0 = w4 := by rw [eE4]; rfl
      have hU4 : ∀ w', Upd E4.S E4.w0 w' → Upd Non w w' := fun w' hu => by rw [eS, ew] at hu; exact hPJ4.pi.hU hu
      have hEE4 : ∀ w', Upd E4.S E4.w0 w' → EnvT w' := fun w' hu => hE0.below (hU4 w' hu).to_below
      have hPD := hP; have hkD := hk; have hctrD := hctr
      have hP : E4.P = Tryz.prog := hE4.P.trans hPD
      have hk : E4.kp = kp5 := hE4.kp.trans hkD
      have hctr : CtrOk E4 clC := clC_ok hP hEE4
      have hn0 : E4.n0 = 3 := by rw [eE4]; rfl
      have p3 : IntKind.i64.wrap ((i1 : Int) + 1) = ((i1 + 1 : Nat) : Int) := by rw [IntWalk.i64_in _ (by omega)]; rfl
      simp only [slC]
      (refine VT_ok hctr (rs := res5) true 300 _ _ _ ?_; simp (maxSteps := 1000000) only [VT, jf, jg, jZ, ja, jd, je, VC, qA, qB, qC, qD, qE, qF, qG, qH, qI, qJ, qK, qL, qM, qN, qO, qP, qQ, qR, qS, qT, qU, qV, qW, qX, qY, qZ, qe, qf, qg, qh, qj, qk, ql, qm, qn, qo, qp, qq, q0t, qu, qv, ev, qw, qy, qz, zA, zB, zC, zD, zE, zF, zG, zH, zI, zJ, TE.sv, zK, zL, zM, ↓reduceIte, reduceCtorEq, Value.oneCell', Nat.reduceEqDiff, Nat.reduceAdd, Nat.reduceLT, Nat.reduceBEq, Nat.reduceSub, Nat.reduceLeDiff, zP, zQ, zR, zS, zT, zU, zV, zW, zX, zY, zZ, za, zb, zc, zd, ze, zf, zg, zh, zi, zj, zk, zl, zm, zn, zo, zp, zq, zr, zt, zu, zw, zx, zy, zz, cE, jA, jB, hap, killE, deadOf, rwE, cD, cO, jC, jD, jE, jF, jG, jH, jI, jJ, jK, jL, jM, jN, jO, jP, jQ, jR, jS, jT, jU, jV, jW, jX, jY, hP, hk, res5, kp5, clC, gqZ, gqS, Int.toNat_natCast, Int.toNat_zero, Nat.mul_one, Int.le_refl, beq_self_eq_true, bne_self_eq_false, Bool.not_false, Bool.not_true, p3])
      exact hJ E4 hE4 ⟨(t + k, n2, i1 + 1, d2), ⟨hk2, by show i1 + 1 ≤ t + k; omega, hIC.hn, hIC.ok, hIC.fit, hIC.len, hIC.dr, hIC.no rfl⟩⟩ (by show b.length - (t + k) < b.length - t; omega) fun ρ' a' w' hr => by
        have i2 : ρ' 2 = ρ4 2 := by rw [hr.hw.ini 2 (by rw [hn0]; decide), eE4]; rfl
        have i0 : ρ' 0 = ρ4 0 := by rw [hr.hw.ini 0 (by rw [hn0]; decide), eE4]; rfl
        have := end3 (sl' := slC b a n c L.length (t + k) n2 (i1 + 1)) (c := cf) (d := d2) (L := L) (p := 2) hr hPJ4.pi eS ew rfl rfl rfl (Nat.le_refl 2) ⟨⟨_, rfl, rfl, trivial⟩, ⟨_, rfl, rfl, trivial⟩, ⟨_, rfl, rfl, trivial⟩, ⟨_, rfl, rfl, (by show 2 < 3; decide)⟩, ⟨_, rfl, rfl, (by show 1 < 3; decide)⟩, ⟨_, rfl, rfl, (by show 0 < 3; decide)⟩, ⟨_, rfl, rfl, trivial⟩, ⟨_, rfl, rfl, trivial⟩, trivial⟩ (by rw [i2, i0]; exact hPJ4.nl)
        rw [hE4.df, ddf] at this
        exact ⟨_, this.1, this.2⟩
    rintro ⟨⟨n2, d2, more⟩, hIC⟩ G ρ5 w5 gP gS gw gn gr gk gdf gPan gRet ⟨a5, hwt5⟩ hPJ5 hX3 hJ3
    simp only at hIC
    obtain ⟨q1, q2, q3, q4, q5, q6⟩ := hIC
    have hPD := hP; have hkD := hk; have hctrD := hctr
    have hU5 : ∀ w', Upd G.S G.w0 w' → Upd Non w w' := fun w' hu => by rw [gS, gw] at hu; exact hPJ5.pi.hU hu
    have hE : ∀ w', Upd G.S G.w0 w' → EnvT w' := fun w' hu => hE0.below (hU5 w' hu).to_below
    have hP : G.P = Tryz.prog := by rw [gP]; exact hPD
    have hk : G.kp = kp5 := by rw [gk]; exact hkD
    have hctr : CtrOk G clC := clC_ok hP hE
    have hn0 : G.n0 = 3 := by rw [gn]; rfl
    have hn0l : G.n0 ≤ zG (en3 cf d2 L) := by rw [hn0]; exact Nat.le_refl 3
    show Run G _ _ (slE b a n c L.length (t + k) n2 i1 more) (en3 cf d2 L)
    simp only [slE, slC]
    cases more with
    | false =>
      (refine VT_ok hctr (rs := res5) true 300 _ _ _ ?_; simp (maxSteps := 1000000) only [VT, jf, jg, jZ, ja, jd, je, VC, qA, qB, qC, qD, qE, qF, qG, qH, qI, qJ, qK, qL, qM, qN, qO, qP, qQ, qR, qS, qT, qU, qV, qW, qX, qY, qZ, qe, qf, qg, qh, qj, qk, ql, qm, qn, qo, qp, qq, q0t, qu, qv, ev, qw, qy, qz, zA, zB, zC, zD, zE, zF, zG, zH, zI, zJ, TE.sv, zK, zL, zM, ↓reduceIte, reduceCtorEq, Value.oneCell', Nat.reduceEqDiff, Nat.reduceAdd, Nat.reduceLT, Nat.reduceBEq, Nat.reduceSub, Nat.reduceLeDiff, zP, zQ, zR, zS, zT, zU, zV, zW, zX, zY, zZ, za, zb, zc, zd, ze, zf, zg, zh, zi, zj, zk, zl, zm, zn, zo, zp, zq, zr, zt, zu, zw, zx, zy, zz, cE, jA, jB, hap, killE, deadOf, rwE, cD, cO, jC, jD, jE, jF, jG, jH, jI, jJ, jK, jL, jM, jN, jO, jP, jQ, jR, jS, jT, jU, jV, jW, jX, jY, hP, hk, res5, kp5, clC, gqZ, gqS, Int.toNat_natCast, Int.toNat_zero, Nat.mul_one, Int.le_refl, beq_self_eq_true, bne_self_eq_false, Bool.not_false, Bool.not_true])
      exact hX3 G (SameQ.refl G) ⟨(n2, d2), ⟨q1, q2, q3, q4, q5, q6⟩⟩ rfl fun ρ' a' w' hr => by
        have i2 : ρ' 2 = ρ5 2 := by rw [hr.hw.ini 2 (by rw [hn0]; decide), gr]
        have i0 : ρ' 0 = ρ5 0 := by rw [hr.hw.ini 0 (by rw [hn0]; decide), gr]
        have := end3 (sl' := slC b a n c L.length (t + k) n2 i1) (c := cf) (d := d2) (L := L) (p := 2) hr hPJ5.pi gS gw rfl rfl rfl (Nat.le_refl 2) ⟨⟨_, rfl, rfl, trivial⟩, ⟨_, rfl, rfl, trivial⟩, ⟨_, rfl, rfl, trivial⟩, ⟨_, rfl, rfl, (by show 2 < 3; decide)⟩, ⟨_, rfl, rfl, (by show 1 < 3; decide)⟩, ⟨_, rfl, rfl, (by show 0 < 3; decide)⟩, ⟨_, rfl, rfl, trivial⟩, ⟨_, rfl, rfl, trivial⟩, trivial⟩ (by rw [i2, i0]; exact hPJ5.nl)
        rw [gdf] at this
        exact ⟨_, this.1, this.2⟩
    | true =>
    (refine VT_ok hctr (rs := res5) true 300 _ _ _ ?_; simp (maxSteps := 1000000) only [VT, jf, jg, jZ, ja, jd, je, VC, qA, qB, qC, qD, qE, qF, qG, qH, qI, qJ, qK, qL, qM, qN, qO, qP, qQ, qR, qS, qT, qU, qV, qW, qX, qY, qZ, qe, qf, qg, qh, qj, qk, ql, qm, qn, qo, qp, qq, q0t, qu, qv, ev, qw, qy, qz, zA, zB, zC, zD, zE, zF, zG, zH, zI, zJ, TE.sv, zK, zL, zM, ↓reduceIte, reduceCtorEq, Value.oneCell', Nat.reduceEqDiff, Nat.reduceAdd, Nat.reduceLT, Nat.reduceBEq, Nat.reduceSub, Nat.reduceLeDiff, zP, zQ, zR, zS, zT, zU, zV, zW, zX, zY, zZ, za, zb, zc, zd, ze, zf, zg, zh, zi, zj, zk, zl, zm, zn, zo, zp, zq, zr, zt, zu, zw, zx, zy, zz, cE, jA, jB, hap, killE, deadOf, rwE, cD, cO, jC, jD, jE, jF, jG, jH, jI, jJ, jK, jL, jM, jN, jO, jP, jQ, jR, jS, jT, jU, jV, jW, jX, jY, hP, hk, res5, kp5, clC, gqZ, gqS, Int.toNat_natCast, Int.toNat_zero, Nat.mul_one, Int.le_refl, beq_self_eq_true, bne_self_eq_false, Bool.not_false, Bool.not_true])
    obtain ⟨v, hv⟩ : ∃ v, v = cnNext d2 := ⟨_, rfl⟩
    refine Run_next (G := 1) q2 hv.symm hP hE rfl (by simp [zG, en3]) hn0l rfl (by simp) ?_
    by_cases hok : v.2.2 = true
    rotate_left
    · have hno : (cnNext d2).2.2 = false := by rw [← hv]; simpa using hok
      have hxe := next_no hno
      rw [hxe] at hv
      subst hv
      (refine VT_ok hctr (rs := res5) true 300 _ _ _ ?_; simp (maxSteps := 1000000) only [VT, jf, jg, jZ, ja, jd, je, VC, qA, qB, qC, qD, qE, qF, qG, qH, qI, qJ, qK, qL, qM, qN, qO, qP, qQ, qR, qS, qT, qU, qV, qW, qX, qY, qZ, qe, qf, qg, qh, qj, qk, ql, qm, qn, qo, qp, qq, q0t, qu, qv, ev, qw, qy, qz, zA, zB, zC, zD, zE, zF, zG, zH, zI, zJ, TE.sv, zK, zL, zM, ↓reduceIte, reduceCtorEq, Value.oneCell', Nat.reduceEqDiff, Nat.reduceAdd, Nat.reduceLT, Nat.reduceBEq, Nat.reduceSub, Nat.reduceLeDiff, zP, zQ, zR, zS, zT, zU, zV, zW, zX, zY, zZ, za, zb, zc, zd, ze, zf, zg, zh, zi, zj, zk, zl, zm, zn, zo, zp, zq, zr, zt, zu, zw, zx, zy, zz, cE, jA, jB, hap, killE, deadOf, rwE, cD, cO, jC, jD, jE, jF, jG, jH, jI, jJ, jK, jL, jM, jN, jO, jP, jQ, jR, jS, jT, jU, jV, jW, jX, jY, hP, hk, res5, kp5, clC, gqZ, gqS, Int.toNat_natCast, Int.toNat_zero, Nat.mul_one, Int.le_refl, beq_self_eq_true, bne_self_eq_false, Bool.not_false, Bool.not_true, en3])
      exact hJ3 G (SameQ.refl G) ⟨(n2, d2, false), ⟨q1, q2, q3, q4, q5, fun _ => hno⟩⟩ (by show 2 * d2.inp.length + 0 < 2 * d2.inp.length + 1; omega) fun ρ' a' w' hr => by
        have i2 : ρ' 2 = ρ5 2 := by rw [hr.hw.ini 2 (by rw [hn0]; decide), gr]
        have i0 : ρ' 0 = ρ5 0 := by rw [hr.hw.ini 0 (by rw [hn0]; decide), gr]
        have := end3 (sl' := slE b a n c L.length (t + k) n2 i1 false) (c := cf) (d := d2) (L := L) (p := 2) hr hPJ5.pi gS gw rfl rfl rfl (Nat.le_refl 2) ⟨⟨_, rfl, rfl, trivial⟩, ⟨_, rfl, rfl, trivial⟩, ⟨_, rfl, rfl, trivial⟩, ⟨_, rfl, rfl, trivial⟩, ⟨_, rfl, rfl, (by show 2 < 3; decide)⟩, ⟨_, rfl, rfl, (by show 1 < 3; decide)⟩, ⟨_, rfl, rfl, (by show 0 < 3; decide)⟩, ⟨_, rfl, rfl, trivial⟩, ⟨_, rfl, rfl, trivial⟩, trivial⟩ (by rw [i2, i0]; exact hPJ5.nl)
        rw [gdf] at this
        exact ⟨_, this.1, this.2⟩
    obtain ⟨dn2, r, ok⟩ := v
    simp only at hok
    subst hok
    have hv := hv.symm
    obtain ⟨l', e1, e2, e3, e4⟩ := q5.next q3 (by omega) hv
    have hn2 : n2 < L.length := by
      have := congrArg List.length e1
      rw [List.length_drop, List.length_map, List.length_cons] at this; omega
    obtain ⟨y, hy⟩ : ∃ y, L[n2]? = some y := ⟨_, List.getElem?_eq_getElem hn2⟩
    have hr1 : y.1 = r := by
      have h := congrArg (fun l => l[0]?) e1
      simp only [List.getElem?_drop, List.getElem?_map, Nat.add_zero, hy, Option.map_some, List.getElem?_cons_zero, Option.some.injEq] at h
      exact h
    have hl' : l' = (L.map Prod.fst).drop (n2 + 1) := by
      have h := congrArg List.tail e1
      simpa [List.tail_drop] using h.symm
    have nok : CnOk dn2 := by have := q2.next; rw [hv] at this; exact this
    have hym : y ∈ L := List.mem_of_getElem? hy
    have hctrC := hctr
    have hctr : CtrOk G (clP r y.2) := clP_ok hP hE (fun w' hu => by rw [gS, gw] at hu; rw [← hr1]; exact hPJ5.pi.at hu hym)
    have c3 : decide ((L.length : Int) ≤ (n2 : Int)) = false := decide_eq_false (by omega)
    (refine VT_ok hctr (rs := res5) true 300 _ _ _ ?_; simp (maxSteps := 1000000) only [VT, jf, jg, jZ, ja, jd, je, VC, qA, qB, qC, qD, qE, qF, qG, qH, qI, qJ, qK, qL, qM, qN, qO, qP, qQ, qR, qS, qT, qU, qV, qW, qX, qY, qZ, qe, qf, qg, qh, qj, qk, ql, qm, qn, qo, qp, qq, q0t, qu, qv, ev, qw, qy, qz, zA, zB, zC, zD, zE, zF, zG, zH, zI, zJ, TE.sv, zK, zL, zM, ↓reduceIte, reduceCtorEq, Value.oneCell', Nat.reduceEqDiff, Nat.reduceAdd, Nat.reduceLT, Nat.reduceBEq, Nat.reduceSub, Nat.reduceLeDiff, zP, zQ, zR, zS, zT, zU, zV, zW, zX, zY, zZ, za, zb, zc, zd, ze, zf, zg, zh, zi, zj, zk, zl, zm, zn, zo, zp, zq, zr, zt, zu, zw, zx, zy, zz, cE, jA, jB, hap, killE, deadOf, rwE, cD, cO, jC, jD, jE, jF, jG, jH, jI, jJ, jK, jL, jM, jN, jO, jP, jQ, jR, jS, jT, jU, jV, jW, jX, jY, hP, hk, res5, kp5, clC, gqZ, gqS, Int.toNat_natCast, Int.toNat_zero, Nat.mul_one, Int.le_refl, beq_self_eq_true, bne_self_eq_false, Bool.not_false, Bool.not_true, en3, c3])
    obtain ⟨m, hm1, hm2, hal⟩ : ∃ m, L.length ≤ m ∧ m ≤ maxLen ∧ ∀ ρ' : Nat → RE, ρ' 2 = ρ5 2 → (SC.sl 2 0 L.length m).den ρ' = (SC.rw 2 L.length).den ρ' := by
      obtain ⟨_, _, h⟩ := hwt5.ho 2 _ _ _ (by show 2 < 3; decide) rfl
      rcases h with ⟨h1, h2, h3, h4, h5⟩ | ⟨h1, h2, h3⟩
      · refine ⟨(ρ5 2).cap, h4, h5, fun ρ' e => ?_⟩
        simp only [SC.den, e, h2, List.length_nil, Nat.zero_add]
        rw [rwOf_on h1]
      · exact absurd h2 (by omega)
    refine Run_alias (M := Unit) (Φ := fun _ ρ' => ρ' 2 = ρ5 2) (en' := fun _ => _) (sl' := fun _ => slG b L.length m n2 (t + k) i1 a n c) (fun ρ' w' hw => ⟨(), by rw [hw.ini 2 (by rw [hn0]; decide), gr]⟩) (fun _ => aliE_same _ _ _) (fun _ => ⟨⟨_, rfl, fun _ _ => rfl, id⟩, ⟨_, rfl, fun _ _ => rfl, id⟩, ⟨_, rfl, fun _ _ => rfl, id⟩, ⟨_, rfl, fun _ _ => rfl, id⟩, ⟨_, rfl, fun ρ' h => hal ρ' h, id⟩, ⟨_, rfl, fun _ _ => rfl, id⟩, ⟨_, rfl, fun _ _ => rfl, id⟩, ⟨_, rfl, fun _ _ => rfl, id⟩, ⟨_, rfl, fun _ _ => rfl, id⟩, ⟨_, rfl, fun _ _ => rfl, id⟩, trivial⟩) (fun _ => ?_)
    have p0 : (0 : Int) ≤ (n2 : Int) := by omega
    have p1 : (n2 : Int) < (L.length : Int) := by omega
    have htk : zB (n2 * 11) 11 (flatG gpC L) = some (gpC y) := flatG_take gpC_len hy
    have hyg : gpC y = gqP r y.2 := by rw [← hr1]; rfl
    rw [hyg] at htk
    simp only [slG]
    have z1 : jW 6 (flatG gpC L) = true := wfL_iff (gpC_wf _ _)
    have z2 : jW 6 (cmG r).cells = true := wfL_iff (ec_wf _ _)
    have z3 : jW 6 (flG r).cells = true := wfL_iff (st_wf _ _)
    have z4 : jW 6 (gqP r y.2) = true := wfL_iff (gqP_wf _ _ _)
    have z5 : jW 6 (cnE cf true).cells = true := rfl
    have z6 : jW 6 (cnE dn2 true).cells = true := rfl
    have p3 : IntKind.i64.wrap ((n2 : Int) + 1) = ((n2 + 1 : Nat) : Int) := by rw [IntWalk.i64_in _ (by omega)]; rfl
    (refine Run_drawD hctr (by rw [hP]; rfl) rs5_39 [] (ensure_type_of% (Cmp.of (by simp (maxSteps := 1000000) only [VC, qA, qB, qC, qD, qE, qF, qG, qH, qI, qJ, qK, qL, qM, qN, qO, qP, qQ, qR, qS, qT, qU, qV, qW, qX, qY, qZ, qe, qf, qg, qh, qj, qk, ql, qm, qn, qo, qp, qq, q0t, qu, qv, ev, qw, qy, qz, zA, zB, zC, zD, zE, zF, zG, zH, zI, zJ, TE.sv, zK, zL, zM, ↓reduceIte, reduceCtorEq, Value.oneCell', Nat.reduceEqDiff, Nat.reduceAdd, Nat.reduceLT, Nat.reduceBEq, Nat.reduceSub, Nat.reduceLeDiff, zP, zQ, zR, zS, zT, zU, zV, zW, zX, zY, zZ, za, zb, zc, zd, ze, zf, zg, zh, zi, zj, zk, zl, zm, zn, zo, zp, zq, zr, zt, zu, zw, zx, zy, zz, cE, jA, jB, hap, killE, deadOf, rwE, cD, cO, jC, jD, jE, jF, jG, jH, jI, jJ, jK, jL, jM, jN, jO, jP, jQ, jR, jS, jT, jU, jV, jW, jX, jY, hP, clC, gqZ, gqS, Int.toNat_natCast, Int.toNat_zero, Nat.mul_one, Int.le_refl, beq_self_eq_true, bne_self_eq_false, Bool.not_false, Bool.not_true, en3, c3, p0, p1, p3, htk, clP, rowSameP, rwR, z1, z2, z3, z4, z5, z6, cond_true]; rfl)) "" Cmp.mk) (by kernel_rfl) (by kernel_rfl) (by first | exact lenB_one _ | kernel_rfl) (by kernel_rfl) (by rfl) (by rfl) (by first | exact firstN_self _ | rfl) (by rfl) ?_ ?_; rotate_left; refine VT_ok hctr (rs := res5) true 300 _ _ _ ?_; simp (maxSteps := 1000000) only [VT, jf, jg, jZ, ja, jd, je, VC, qA, qB, qC, qD, qE, qF, qG, qH, qI, qJ, qK, qL, qM, qN, qO, qP, qQ, qR, qS, qT, qU, qV, qW, qX, qY, qZ, qe, qf, qg, qh, qj, qk, ql, qm, qn, qo, qp, qq, q0t, qu, qv, ev, qw, qy, qz, zA, zB, zC, zD, zE, zF, zG, zH, zI, zJ, TE.sv, zK, zL, zM, ↓reduceIte, reduceCtorEq, Value.oneCell', Nat.reduceEqDiff, Nat.reduceAdd, Nat.reduceLT, Nat.reduceBEq, Nat.reduceSub, Nat.reduceLeDiff, zP, zQ, zR, zS, zT, zU, zV, zW, zX, zY, zZ, za, zb, zc, zd, ze, zf, zg, zh, zi, zj, zk, zl, zm, zn, zo, zp, zq, zr, zt, zu, zw, zx, zy, zz, cE, jA, jB, hap, killE, deadOf, rwE, cD, cO, jC, jD, jE, jF, jG, jH, jI, jJ, jK, jL, jM, jN, jO, jP, jQ, jR, jS, jT, jU, jV, jW, jX, jY, hP, hk, res5, kp5, clC, gqZ, gqS, Int.toNat_natCast, Int.toNat_zero, Nat.mul_one, Int.le_refl, beq_self_eq_true, bne_self_eq_false, Bool.not_false, Bool.not_true, en3, c3, p0, p1, p3, htk, clP, rowSameP, rwR, z1, z2, z3, z4, z5, z6, cond_true]; rotate_left; simp (maxSteps := 1000000) only [VC, qA, qB, qC, qD, qE, qF, qG, qH, qI, qJ, qK, qL, qM, qN, qO, qP, qQ, qR, qS, qT, qU, qV, qW, qX, qY, qZ, qe, qf, qg, qh, qj, qk, ql, qm, qn, qo, qp, qq, q0t, qu, qv, ev, qw, qy, qz, zA, zB, zC, zD, zE, zF, zG, zH, zI, zJ, TE.sv, zK, zL, zM, ↓reduceIte, reduceCtorEq, Value.oneCell', Nat.reduceEqDiff, Nat.reduceAdd, Nat.reduceLT, Nat.reduceBEq, Nat.reduceSub, Nat.reduceLeDiff, zP, zQ, zR, zS, zT, zU, zV, zW, zX, zY, zZ, za, zb, zc, zd, ze, zf, zg, zh, zi, zj, zk, zl, zm, zn, zo, zp, zq, zr, zt, zu, zw, zx, zy, zz, cE, jA, jB, hap, killE, deadOf, rwE, cD, cO, jC, jD, jE, jF, jG, jH, jI, jJ, jK, jL, jM, jN, jO, jP, jQ, jR, jS, jT, jU, jV, jW, jX, jY, hP, clC, gqZ, gqS, Int.toNat_natCast, Int.toNat_zero, Nat.mul_one, Int.le_refl, beq_self_eq_true, bne_self_eq_false, Bool.not_false, Bool.not_true, en3, c3, p0, p1, p3, htk, clP, rowSameP, rwR, z1, z2, z3, z4, z5, z6, cond_true])
    · exact ⟨3, rfl, rfl, rfl⟩
    exact hJ3 G (SameQ.refl G) ⟨(n2 + 1, dn2, true), ⟨hn2, nok, e3, by show dn2.inp.length ≤ t + k; omega, by rw [hl'] at e2; exact e2, fun h => by cases h⟩⟩ (by show 2 * dn2.inp.length + 1 < 2 * d2.inp.length + 1; omega) fun ρ' a' w' hr => by
      have i2 : ρ' 2 = ρ5 2 := by rw [hr.hw.ini 2 (by rw [hn0]; decide), gr]
      have i0 : ρ' 0 = ρ5 0 := by rw [hr.hw.ini 0 (by rw [hn0]; decide), gr]
      have := end3 (sl' := slE b a n c L.length (t + k) (n2 + 1) i1 true) (c := cf) (d := dn2) (L := L) (p := 2) hr hPJ5.pi gS gw rfl rfl rfl (Nat.le_refl 2) ⟨⟨_, rfl, rfl, trivial⟩, ⟨_, rfl, rfl, trivial⟩, ⟨_, rfl, rfl, trivial⟩, ⟨_, rfl, rfl, trivial⟩, ⟨_, rfl, (hal ρ' i2).symm, (by show 2 < 3; decide)⟩, ⟨_, rfl, rfl, (by show 1 < 3; decide)⟩, ⟨_, rfl, rfl, (by show 0 < 3; decide)⟩, ⟨_, rfl, rfl, trivial⟩, ⟨_, rfl, rfl, trivial⟩, trivial⟩ (by rw [i2, i0]; exact hPJ5.nl)
      rw [gdf] at this
      exact ⟨_, this.1, this.2⟩
  · intro _ ρ6 w6 ⟨a6, hwt6⟩ hPJ6
    obtain ⟨E6, eE6⟩ : ∃ E6, E6 = cxW E ρ6 w6 (en3 cf cf L) := ⟨_, rfl⟩
    have hE6 : SameQ E6 C := by rw [eE6]; exact hE1.cxW _ _ _
    show Run (cxW E ρ6 w6 (en3 cf cf L)) _ _ (slD L.length L.length) (en3 cf cf L)
    rw [← eE6]
    have eS : E6.S = wrB ρ6 (en3 cf cf L) := by rw [eE6]; rfl
    have ew : E6.w0 = w6 := by rw [eE6]; rfl
    have hU6 : ∀ w', Upd E6.S E6.w0 w' → Upd Non w w' := fun w' hu => by rw [eS, ew] at hu; exact hPJ6.pi.hU hu
    have hEE6 : ∀ w', Upd E6.S E6.w0 w' → EnvT w' := fun w' hu => hE0.below (hU6 w' hu).to_below
    have hP : E6.P = Tryz.prog := hE6.P.trans hPC
    have hk : E6.kp = kp5 := hE6.kp.trans hkC
    have hctr : CtrOk E6 clC := clC_ok hP hEE6
    have hCtx6 := hCtxC.sameQ hE6
    simp only [slD]
    (refine VT_ok hctr (rs := res5) true 300 _ _ _ ?_; simp (maxSteps := 1000000) only [VT, jf, jg, jZ, ja, jd, je, VC, qA, qB, qC, qD, qE, qF, qG, qH, qI, qJ, qK, qL, qM, qN, qO, qP, qQ, qR, qS, qT, qU, qV, qW, qX, qY, qZ, qe, qf, qg, qh, qj, qk, ql, qm, qn, qo, qp, qq, q0t, qu, qv, ev, qw, qy, qz, zA, zB, zC, zD, zE, zF, zG, zH, zI, zJ, TE.sv, zK, zL, zM, ↓reduceIte, reduceCtorEq, Value.oneCell', Nat.reduceEqDiff, Nat.reduceAdd, Nat.reduceLT, Nat.reduceBEq, Nat.reduceSub, Nat.reduceLeDiff, zP, zQ, zR, zS, zT, zU, zV, zW, zX, zY, zZ, za, zb, zc, zd, ze, zf, zg, zh, zi, zj, zk, zl, zm, zn, zo, zp, zq, zr, zt, zu, zw, zx, zy, zz, cE, jA, jB, hap, killE, deadOf, rwE, cD, cO, jC, jD, jE, jF, jG, jH, jI, jJ, jK, jL, jM, jN, jO, jP, jQ, jR, jS, jT, jU, jV, jW, jX, jY, hP, hk, res5, kp5, clC, gqZ, gqS, Int.toNat_natCast, Int.toNat_zero, Nat.mul_one, Int.le_refl, beq_self_eq_true, bne_self_eq_false, Bool.not_false, Bool.not_true])
    refine Run_cn (N := 0) (c := cf) cf (ys := []) (.t [.c (.i .i64 cf.inp.length), .c (.i .i64 cf.out.length)]) rfl hP rfl (by simp [zG, en3]) (fun args w => Tryz.call18 args w) (fun pr => by simp [SV.wf, SC.wf, TE.wf]) (fun ρ w g h => sizes_w h) rfl (by simp) ?_
    (refine VT_ok hctr (rs := res5) true 300 _ _ _ ?_; simp (maxSteps := 1000000) only [VT, jf, jg, jZ, ja, jd, je, VC, qA, qB, qC, qD, qE, qF, qG, qH, qI, qJ, qK, qL, qM, qN, qO, qP, qQ, qR, qS, qT, qU, qV, qW, qX, qY, qZ, qe, qf, qg, qh, qj, qk, ql, qm, qn, qo, qp, qq, q0t, qu, qv, ev, qw, qy, qz, zA, zB, zC, zD, zE, zF, zG, zH, zI, zJ, TE.sv, zK, zL, zM, ↓reduceIte, reduceCtorEq, Value.oneCell', Nat.reduceEqDiff, Nat.reduceAdd, Nat.reduceLT, Nat.reduceBEq, Nat.reduceSub, Nat.reduceLeDiff, zP, zQ, zR, zS, zT, zU, zV, zW, zX, zY, zZ, za, zb, zc, zd, ze, zf, zg, zh, zi, zj, zk, zl, zm, zn, zo, zp, zq, zr, zt, zu, zw, zx, zy, zz, cE, jA, jB, hap, killE, deadOf, rwE, cD, cO, jC, jD, jE, jF, jG, jH, jI, jJ, jK, jL, jM, jN, jO, jP, jQ, jR, jS, jT, jU, jV, jW, jX, jY, hP, hk, res5, kp5, clC, gqZ, gqS, Int.toNat_natCast, Int.toNat_zero, Nat.mul_one, Int.le_refl, beq_self_eq_true, bne_self_eq_false, Bool.not_false, Bool.not_true, en3])
    refine Run_cn (N := 1) (c := cf) cf (ys := []) (.t [.c (.i .i64 cf.inp.length), .c (.i .i64 cf.out.length)]) rfl hP rfl (by simp [zG, en3]) (fun args w => Tryz.call18 args w) (fun pr => by simp [SV.wf, SC.wf, TE.wf]) (fun ρ w g h => sizes_w h) rfl (by simp) ?_
    (refine VT_ok hctr (rs := res5) true 300 _ _ _ ?_; simp (maxSteps := 1000000) only [VT, jf, jg, jZ, ja, jd, je, VC, qA, qB, qC, qD, qE, qF, qG, qH, qI, qJ, qK, qL, qM, qN, qO, qP, qQ, qR, qS, qT, qU, qV, qW, qX, qY, qZ, qe, qf, qg, qh, qj, qk, ql, qm, qn, qo, qp, qq, q0t, qu, qv, ev, qw, qy, qz, zA, zB, zC, zD, zE, zF, zG, zH, zI, zJ, TE.sv, zK, zL, zM, ↓reduceIte, reduceCtorEq, Value.oneCell', Nat.reduceEqDiff, Nat.reduceAdd, Nat.reduceLT, Nat.reduceBEq, Nat.reduceSub, Nat.reduceLeDiff, zP, zQ, zR, zS, zT, zU, zV, zW, zX, zY, zZ, za, zb, zc, zd, ze, zf, zg, zh, zi, zj, zk, zl, zm, zn, zo, zp, zq, zr, zt, zu, zw, zx, zy, zz, cE, jA, jB, hap, killE, deadOf, rwE, cD, cO, jC, jD, jE, jF, jG, jH, jI, jJ, jK, jL, jM, jN, jO, jP, jQ, jR, jS, jT, jU, jV, jW, jX, jY, hP, hk, res5, kp5, clC, gqZ, gqS, Int.toNat_natCast, Int.toNat_zero, Nat.mul_one, Int.le_refl, beq_self_eq_true, bne_self_eq_false, Bool.not_false, Bool.not_true, en3])
    refine Run_cn (N := 0) (c := cf) cf (ys := []) (.c (.b cf.ends)) rfl hP rfl (by simp [zG, en3]) (fun args w => Tryz.call16 args w) (fun pr => by simp [SV.wf, SC.wf, TE.wf]) (fun ρ w g h => ends_w h) rfl (by simp) ?_
    (refine VT_ok hctr (rs := res5) true 300 _ _ _ ?_; simp (maxSteps := 1000000) only [VT, jf, jg, jZ, ja, jd, je, VC, qA, qB, qC, qD, qE, qF, qG, qH, qI, qJ, qK, qL, qM, qN, qO, qP, qQ, qR, qS, qT, qU, qV, qW, qX, qY, qZ, qe, qf, qg, qh, qj, qk, ql, qm, qn, qo, qp, qq, q0t, qu, qv, ev, qw, qy, qz, zA, zB, zC, zD, zE, zF, zG, zH, zI, zJ, TE.sv, zK, zL, zM, ↓reduceIte, reduceCtorEq, Value.oneCell', Nat.reduceEqDiff, Nat.reduceAdd, Nat.reduceLT, Nat.reduceBEq, Nat.reduceSub, Nat.reduceLeDiff, zP, zQ, zR, zS, zT, zU, zV, zW, zX, zY, zZ, za, zb, zc, zd, ze, zf, zg, zh, zi, zj, zk, zl, zm, zn, zo, zp, zq, zr, zt, zu, zw, zx, zy, zz, cE, jA, jB, hap, killE, deadOf, rwE, cD, cO, jC, jD, jE, jF, jG, jH, jI, jJ, jK, jL, jM, jN, jO, jP, jQ, jR, jS, jT, jU, jV, jW, jX, jY, hP, hk, res5, kp5, clC, gqZ, gqS, Int.toNat_natCast, Int.toNat_zero, Nat.mul_one, Int.le_refl, beq_self_eq_true, bne_self_eq_false, Bool.not_false, Bool.not_true, en3])
    refine Run_cn (N := 1) (c := cf) cf (ys := []) (.c (.b cf.ends)) rfl hP rfl (by simp [zG, en3]) (fun args w => Tryz.call16 args w) (fun pr => by simp [SV.wf, SC.wf, TE.wf]) (fun ρ w g h => ends_w h) rfl (by simp) ?_
    (refine VT_ok hctr (rs := res5) true 300 _ _ _ ?_; simp (maxSteps := 1000000) only [VT, jf, jg, jZ, ja, jd, je, VC, qA, qB, qC, qD, qE, qF, qG, qH, qI, qJ, qK, qL, qM, qN, qO, qP, qQ, qR, qS, qT, qU, qV, qW, qX, qY, qZ, qe, qf, qg, qh, qj, qk, ql, qm, qn, qo, qp, qq, q0t, qu, qv, ev, qw, qy, qz, zA, zB, zC, zD, zE, zF, zG, zH, zI, zJ, TE.sv, zK, zL, zM, ↓reduceIte, reduceCtorEq, Value.oneCell', Nat.reduceEqDiff, Nat.reduceAdd, Nat.reduceLT, Nat.reduceBEq, Nat.reduceSub, Nat.reduceLeDiff, zP, zQ, zR, zS, zT, zU, zV, zW, zX, zY, zZ, za, zb, zc, zd, ze, zf, zg, zh, zi, zj, zk, zl, zm, zn, zo, zp, zq, zr, zt, zu, zw, zx, zy, zz, cE, jA, jB, hap, killE, deadOf, rwE, cD, cO, jC, jD, jE, jF, jG, jH, jI, jJ, jK, jL, jM, jN, jO, jP, jQ, jR, jS, jT, jU, jV, jW, jX, jY, hP, hk, res5, kp5, clC, gqZ, gqS, Int.toNat_natCast, Int.toNat_zero, Nat.mul_one, Int.le_refl, beq_self_eq_true, bne_self_eq_false, Bool.not_false, Bool.not_true, en3])
    exact ⟨Tryz.underlying4, Fin_of (v := .c (.b true)) hCtx6 rfl fun ρ' w' hw _ _ => ⟨rfl, (hU6 w' hw.up).to_below⟩⟩
end Go.Proofs.YtehfcboiimdkbaaGreatDoor
