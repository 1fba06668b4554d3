/- A connection in memory; its small methods as calls of a walk. Printed by gen_cn.py. -/
import Derived.Test.YtehfcboiimdkbaaGreatDoorCCgq
import Derived.Test.YtehfcboiimdkbaaGreatDoorBM
namespace Go.Proofs.YtehfcboiimdkbaaGreatDoor
set_option linter.unusedSimpArgs false
set_option linter.unusedVariables false
set_option linter.unusedSimpArgs false
set_option linter.unusedVariables false
set_option maxHeartbeats 8000000
open Go.RowKit
set_option maxRecDepth 100000
def cnA (c : Cn) : Array Value := #[.string ⟨c.inp.toArray⟩, .string ⟨c.out.toArray⟩, .int .i64 c.skip, .bool c.ends]
def cnS (c : Cn) : List SC := [.s c.inp, .s c.out, .i .i64 c.skip, .b c.ends]
def cnE (c : Cn) (mu : Bool) : EN := ⟨(47, 0, whole), cnS c, mu⟩
theorem dens_cn (ρ : Nat → RE) (c : Cn) : dens ρ (cnS c) = (cnA c).toList := rfl
theorem cn_wf (pr : Nat → Prop) (c : Cn) : wfs pr (cnS c) := by
  intro x hx
  simp only [cnS, List.mem_cons, List.not_mem_nil, or_false] at hx
  rcases hx with rfl | rfl | rfl | rfl <;> trivial
theorem cn_at {w : World} {g : Nat} {c : Cn} (h : Blk w g 47 (cnA c)) (mu : Bool) (S : Nat → Prop) (hS : mu = true → S g) : At S (fun _ => reOf g) [cnE c mu] w := by
  have h0 : ∀ i (e : EN), zD [cnE c mu] i = some e → i = 0 := by
    intro i e hc
    match i with
    | 0 => rfl
    | i + 1 => simp [zD] at hc
  refine ⟨?_, ?_, ?_, ?_⟩
  · intro i ty cells mu' hc he
    have : i = 0 := by have : i < 1 := hc; omega
    subst this
    simp only [zD, cnE, Option.some.injEq, EN.mk.injEq] at he
    obtain ⟨rfl, rfl, rfl⟩ := he
    refine ⟨fun _ => h, ?_, fun hd => absurd hd (by decide), fun hn => absurd rfl hn⟩
    intro x hx
    simp only [cnS, List.mem_cons, List.not_mem_nil, or_false] at hx
    rcases hx with rfl | rfl | rfl | rfl | rfl | rfl | rfl | rfl | rfl | rfl | rfl | rfl | rfl | rfl | rfl | rfl <;> trivial
  · intro i ty cells mu' hc he
    have : i = 0 := by have : i < 1 := hc; omega
    subst this
    simp only [zD, cnE, Option.some.injEq, EN.mk.injEq] at he
    obtain ⟨rfl, rfl, rfl⟩ := he
    exact ⟨rfl, rfl, rfl⟩
  · intro i d hc hd _ _ _
    have h1 : i < 1 := hc
    have h2 : d < 1 := hd
    omega
  · intro i ty cells hc he
    have : i = 0 := by have : i < 1 := hc; omega
    subst this
    simp only [zD, cnE, Option.some.injEq, EN.mk.injEq] at he
    exact hS he.2.2
theorem cn_blk {C : Cx} {ρ : Nat → RE} {en : List EN} {w' : World} {g : Nat} {c : Cn} {mu : Bool} (hw : Hw C ρ (· < en.length) en w') (hen : zD en 0 = some (cnE c mu)) (hn0 : 0 < C.n0) (hρ : C.ρ0 0 = reOf g) : Blk w' g 47 (cnA c) := by
  have e := hw.ini 0 hn0
  rw [hρ] at e
  have hl : 0 < en.length := by rw [nthS_eq] at hen; exact (List.getElem?_eq_some_iff.1 hen).1
  have := (hw.hp 0 _ _ _ hl hen).heap ⟨(by show (47 : Nat) ≠ DEAD; decide), by rw [e]; rfl⟩
  rw [e] at this
  exact this
def CnP (g : Nat) (w : World) (c' : Cn) (val : Value) (e : Ending) (w' : World) : Prop := e = .returned val ∧ Upd (One g) w w' ∧ Blk w' g 47 (cnA c')
theorem cn_h {C : Cx} {nE : Nat} {mk : Nat → Prop} {en en' : List EN} {N : Nat} {c c' : Cn} {f : FuncId} {ys : List SV} {v : SV} (hP : C.P = Tryz.prog) (h0 : zD en N = some (cnE c true)) (hN : N < nE) (hmk : ∀ q, ¬ mk q)
    (hent : ∀ args w, (callFunc f args).run Tryz.prog w = .ok (.enter f args) w) (hv : ∀ pr, v.wf pr)
    (H : ∀ (ρ : Nat → RE) w g, Blk w g 47 (cnA c) → Calls Tryz.prog f (Value.pointer (some ⟨g, 0, none⟩) :: ys.map (SV.den ρ)).toArray w (CnP g w c' (v.den ρ)))
    (hen : en' = zE en N (cnE c' true)) : HCall C nE mk en en' f (.c (.p N 0) :: ys) v := by
  subst hen
  refine ⟨fun args w => by rw [hP]; exact hent args w, ?_⟩
  intro ρ pr w hpr hmn hw hex hwf
  rw [hP]
  have hNp := hpr N hN
  obtain ⟨k1, k2, k3, k4, k5⟩ := ent_blk hw.hp hw.ho hNp h0 (by decide) (by simp [cnS])
  have hpl : ∀ c, pr c → c < en.length := by
    intro q hq
    refine Decidable.byContradiction fun hd => hex q hq ?_
    rw [nthS_eq, List.getElem?_eq_none (by omega)]
  have hc := H ρ w (ρ N).blk k1
  simp only [List.map_cons, SV.den, SC.den, k2]
  refine hc.mono ?_
  rintro e w' ⟨rfl, hU, hb⟩
  refine ⟨ρ, fun _ _ => rfl, rfl, hv _, ?_, fun q hq => absurd hq (hmk q)⟩
  have := hw.turn hpl hNp h0 (by show ¬ (47 : Nat) = DEAD; decide) k5 hU (cells' := cnS c') (by rw [k3, k4]; simpa [Blk, dens_cn] using hb) (cn_wf _ _)
  exact this.iff fun q => ⟨fun h => h.resolve_right (hmk q), Or.inl⟩
theorem Run_cn {C : Cx} {nt : Nat} {sl : List (Nat × SV)} {en : List EN} {k : List KI} {dst : Option Nat} {ty : TypeId} {pos : String} {af : Array Edge} {all r : List Oper} {args : Array Operand} {tys : Array TypeId} {gd : Option (Nat × Bool)} {N : Nat} {c : Cn} (c' : Cn) {f : FuncId} {ys : List SV} (v : SV) (hg : gdT all sl gd = true) (hP : C.P = Tryz.prog) (h0 : zD en N = some (cnE c true)) (hN : N < zG en)
    (hent : ∀ args w, (callFunc f args).run Tryz.prog w = .ok (.enter f args) w) (hv : ∀ pr, v.wf pr)
    (H : ∀ (ρ : Nat → RE) w g, Blk w g 47 (cnA c) → Calls Tryz.prog f (Value.pointer (some ⟨g, 0, none⟩) :: ys.map (SV.den ρ)).toArray w (CnP g w c' (v.den ρ)))
    (hxs : qw sl args.toList = some (.c (.p N 0) :: ys)) (hd : ∀ d, dst = some d → d < nt) (hK : Run C (.ops all r :: k) nt (jN dst v sl) (zE en N (cnE c' true))) :
    Run C (.ops all (⟨dst, .call ⟨.value (.func f), args, tys⟩, ty, pos, af, gd⟩ :: r) :: k) nt sl en := by
  have hl : zG (zE en N (cnE c' true)) = zG en := len_set
  exact Run_hcallG hg hxs v _ (cn_h hP h0 hN (fun q hq => by rw [hl] at hq; omega) hent hv H rfl) (by rw [hl]; exact Nat.le_refl _) hd hK
theorem hang_w {c : Cn} {w : World} {g : Nat} (h : Blk w g 47 (cnA c)) : Calls Tryz.prog 19 #[.pointer (some ⟨g, 0, none⟩)] w (CnP g w (cnHang c) (.tuple #[])) := by
  refine calls_of_Run Tryz.func19 rfl kp19 (S := One g) (ρ := fun _ => reOf g) [.c (.p 0 0)] Tryz.ntmps19 (cn_at h true (One g) (fun _ => rfl)) (by simp [SV.wf, SC.wf]) (by simp) ?_
  intro C hC hP hk
  have hctr : CtrOk C (fun _ _ _ => none) := by intro f en xs p v h; cases h
  have fin : ∀ (c' : Cn) sl en, cnHang c = c' → en = [cnE c' true] → Run C [] Tryz.f19.ntmps sl en := fun c' sl en he hen => by
    subst hen
    refine Run_end hC hres19 fun ρ w' hw _ => ?_
    have hb := cn_blk hw rfl (by rw [hC]; exact Nat.zero_lt_one) (by rw [hC]; rfl)
    have hup := hw.up
    rw [hC] at hup
    subst he
    exact ⟨rfl, hup, hb⟩
  (refine VT_ok hctr (rs := res19) true 300 _ _ _ ?_; simp (maxSteps := 1000000) only [VT, jf, jg, jZ, ja, jd, je, VC, qA, qB, qC, qD, qE, qF, qG, qH, qI, qJ, qK, qL, qM, qN, qO, qP, qQ, qR, qS, qT, qU, qV, qW, qX, qY, qZ, qe, qf, qg, qh, qj, qk, ql, qm, qn, qo, qp, qq, q0t, qu, qv, ev, qw, qy, qz, zA, zB, zC, zD, zE, zF, zG, zH, zI, zJ, TE.sv, zK, zL, zM, ↓reduceIte, reduceCtorEq, Value.oneCell', Nat.reduceEqDiff, Nat.reduceAdd, Nat.reduceLT, Nat.reduceBEq, Nat.reduceSub, Nat.reduceLeDiff, zP, zQ, zR, zS, zT, zU, zV, zW, zX, zY, zZ, za, zb, zc, zd, ze, zf, zg, zh, zi, zj, zk, zl, zm, zn, zo, zp, zq, zr, zt, zu, zw, zx, zy, zz, cE, jA, jB, hap, killE, deadOf, rwE, cD, cO, jC, jD, jE, jF, jG, jH, jI, jJ, jK, jL, jM, jN, jO, jP, jQ, jR, jS, jT, jU, jV, jW, jX, jY, hP, hk, res19, kp19, cnE, cnS, Int.toNat_natCast, Int.toNat_zero, Int.le_refl, List.drop_zero])
  exact fin _ _ _ rfl rfl
theorem ends_w {c : Cn} {w : World} {g : Nat} (h : Blk w g 47 (cnA c)) : Calls Tryz.prog 16 #[.pointer (some ⟨g, 0, none⟩)] w (CnP g w c (.bool c.ends)) := by
  refine calls_of_Run Tryz.func16 rfl kp16 (S := One g) (ρ := fun _ => reOf g) [.c (.p 0 0)] Tryz.ntmps16 (cn_at h true (One g) (fun _ => rfl)) (by simp [SV.wf, SC.wf]) (by simp) ?_
  intro C hC hP hk
  have hctr : CtrOk C (fun _ _ _ => none) := by intro f en xs p v h; cases h
  have fin : ∀  (c' : Cn) en, c = c' → en = [cnE c' true] → Fin C res16 (.c (.b c.ends)) en := fun  c' en he hen => by
    subst hen
    refine Fin_cx (v := (.c (.b c.ends))) hC hres16 fun ρ w' hw _ _ => ?_
    have hb := cn_blk hw rfl (by rw [hC]; exact Nat.zero_lt_one) (by rw [hC]; rfl)
    have hup := hw.up
    rw [hC] at hup
    subst he
    exact ⟨rfl, hup, hb⟩
  (refine VT_ok hctr (rs := res16) true 300 _ _ _ ?_; simp (maxSteps := 1000000) only [VT, jf, jg, jZ, ja, jd, je, VC, qA, qB, qC, qD, qE, qF, qG, qH, qI, qJ, qK, qL, qM, qN, qO, qP, qQ, qR, qS, qT, qU, qV, qW, qX, qY, qZ, qe, qf, qg, qh, qj, qk, ql, qm, qn, qo, qp, qq, q0t, qu, qv, ev, qw, qy, qz, zA, zB, zC, zD, zE, zF, zG, zH, zI, zJ, TE.sv, zK, zL, zM, ↓reduceIte, reduceCtorEq, Value.oneCell', Nat.reduceEqDiff, Nat.reduceAdd, Nat.reduceLT, Nat.reduceBEq, Nat.reduceSub, Nat.reduceLeDiff, zP, zQ, zR, zS, zT, zU, zV, zW, zX, zY, zZ, za, zb, zc, zd, ze, zf, zg, zh, zi, zj, zk, zl, zm, zn, zo, zp, zq, zr, zt, zu, zw, zx, zy, zz, cE, jA, jB, hap, killE, deadOf, rwE, cD, cO, jC, jD, jE, jF, jG, jH, jI, jJ, jK, jL, jM, jN, jO, jP, jQ, jR, jS, jT, jU, jV, jW, jX, jY, hP, hk, res16, kp16, cnE, cnS, Int.toNat_natCast, Int.toNat_zero, Int.le_refl, List.drop_zero])
  exact fin _ _ rfl rfl
theorem sizes_w {c : Cn} {w : World} {g : Nat} (h : Blk w g 47 (cnA c)) : Calls Tryz.prog 18 #[.pointer (some ⟨g, 0, none⟩)] w (CnP g w c (.tuple #[.int .i64 c.inp.length, .int .i64 c.out.length])) := by
  refine calls_of_Run Tryz.func18 rfl kp18 (S := One g) (ρ := fun _ => reOf g) [.c (.p 0 0)] Tryz.ntmps18 (cn_at h true (One g) (fun _ => rfl)) (by simp [SV.wf, SC.wf]) (by simp) ?_
  intro C hC hP hk
  have hctr : CtrOk C (fun _ _ _ => none) := by intro f en xs p v h; cases h
  have fin : ∀  (c' : Cn) en, c = c' → en = [cnE c' true] → Fin C res18 (.t [.c (.i .i64 c.inp.length), .c (.i .i64 c.out.length)]) en := fun  c' en he hen => by
    subst hen
    refine Fin_cx (v := (.t [.c (.i .i64 c.inp.length), .c (.i .i64 c.out.length)])) hC hres18 fun ρ w' hw _ _ => ?_
    have hb := cn_blk hw rfl (by rw [hC]; exact Nat.zero_lt_one) (by rw [hC]; rfl)
    have hup := hw.up
    rw [hC] at hup
    subst he
    exact ⟨rfl, hup, hb⟩
  (refine VT_ok hctr (rs := res18) true 300 _ _ _ ?_; simp (maxSteps := 1000000) only [VT, jf, jg, jZ, ja, jd, je, VC, qA, qB, qC, qD, qE, qF, qG, qH, qI, qJ, qK, qL, qM, qN, qO, qP, qQ, qR, qS, qT, qU, qV, qW, qX, qY, qZ, qe, qf, qg, qh, qj, qk, ql, qm, qn, qo, qp, qq, q0t, qu, qv, ev, qw, qy, qz, zA, zB, zC, zD, zE, zF, zG, zH, zI, zJ, TE.sv, zK, zL, zM, ↓reduceIte, reduceCtorEq, Value.oneCell', Nat.reduceEqDiff, Nat.reduceAdd, Nat.reduceLT, Nat.reduceBEq, Nat.reduceSub, Nat.reduceLeDiff, zP, zQ, zR, zS, zT, zU, zV, zW, zX, zY, zZ, za, zb, zc, zd, ze, zf, zg, zh, zi, zj, zk, zl, zm, zn, zo, zp, zq, zr, zt, zu, zw, zx, zy, zz, cE, jA, jB, hap, killE, deadOf, rwE, cD, cO, jC, jD, jE, jF, jG, jH, jI, jJ, jK, jL, jM, jN, jO, jP, jQ, jR, jS, jT, jU, jV, jW, jX, jY, hP, hk, res18, kp18, cnE, cnS, Int.toNat_natCast, Int.toNat_zero, Int.le_refl, List.drop_zero])
  (refine Run_drawD hctr (by rw [hP]; rfl) rs18_1 [] (ensure_type_of% (Cmp.of (by simp (maxSteps := 1000000) only [VC, qA, qB, qC, qD, qE, qF, qG, qH, qI, qJ, qK, qL, qM, qN, qO, qP, qQ, qR, qS, qT, qU, qV, qW, qX, qY, qZ, qe, qf, qg, qh, qj, qk, ql, qm, qn, qo, qp, qq, q0t, qu, qv, ev, qw, qy, qz, zA, zB, zC, zD, zE, zF, zG, zH, zI, zJ, TE.sv, zK, zL, zM, ↓reduceIte, reduceCtorEq, Value.oneCell', Nat.reduceEqDiff, Nat.reduceAdd, Nat.reduceLT, Nat.reduceBEq, Nat.reduceSub, Nat.reduceLeDiff, zP, zQ, zR, zS, zT, zU, zV, zW, zX, zY, zZ, za, zb, zc, zd, ze, zf, zg, zh, zi, zj, zk, zl, zm, zn, zo, zp, zq, zr, zt, zu, zw, zx, zy, zz, cE, jA, jB, hap, killE, deadOf, rwE, cD, cO, jC, jD, jE, jF, jG, jH, jI, jJ, jK, jL, jM, jN, jO, jP, jQ, jR, jS, jT, jU, jV, jW, jX, jY, hP, cnE, cnS]; rfl)) "" Cmp.mk) (by kernel_rfl) (by kernel_rfl) (by first | exact lenB_one _ | kernel_rfl) (by kernel_rfl) (by rfl) (by rfl) (by first | exact firstN_self _ | rfl) (by rfl) (by simp (maxSteps := 1000000) only [VC, qA, qB, qC, qD, qE, qF, qG, qH, qI, qJ, qK, qL, qM, qN, qO, qP, qQ, qR, qS, qT, qU, qV, qW, qX, qY, qZ, qe, qf, qg, qh, qj, qk, ql, qm, qn, qo, qp, qq, q0t, qu, qv, ev, qw, qy, qz, zA, zB, zC, zD, zE, zF, zG, zH, zI, zJ, TE.sv, zK, zL, zM, ↓reduceIte, reduceCtorEq, Value.oneCell', Nat.reduceEqDiff, Nat.reduceAdd, Nat.reduceLT, Nat.reduceBEq, Nat.reduceSub, Nat.reduceLeDiff, zP, zQ, zR, zS, zT, zU, zV, zW, zX, zY, zZ, za, zb, zc, zd, ze, zf, zg, zh, zi, zj, zk, zl, zm, zn, zo, zp, zq, zr, zt, zu, zw, zx, zy, zz, cE, jA, jB, hap, killE, deadOf, rwE, cD, cO, jC, jD, jE, jF, jG, jH, jI, jJ, jK, jL, jM, jN, jO, jP, jQ, jR, jS, jT, jU, jV, jW, jX, jY, hP, cnE, cnS]) ?_; refine VT_ok hctr (rs := res18) true 300 _ _ _ ?_; simp (maxSteps := 1000000) only [VT, jf, jg, jZ, ja, jd, je, VC, qA, qB, qC, qD, qE, qF, qG, qH, qI, qJ, qK, qL, qM, qN, qO, qP, qQ, qR, qS, qT, qU, qV, qW, qX, qY, qZ, qe, qf, qg, qh, qj, qk, ql, qm, qn, qo, qp, qq, q0t, qu, qv, ev, qw, qy, qz, zA, zB, zC, zD, zE, zF, zG, zH, zI, zJ, TE.sv, zK, zL, zM, ↓reduceIte, reduceCtorEq, Value.oneCell', Nat.reduceEqDiff, Nat.reduceAdd, Nat.reduceLT, Nat.reduceBEq, Nat.reduceSub, Nat.reduceLeDiff, zP, zQ, zR, zS, zT, zU, zV, zW, zX, zY, zZ, za, zb, zc, zd, ze, zf, zg, zh, zi, zj, zk, zl, zm, zn, zo, zp, zq, zr, zt, zu, zw, zx, zy, zz, cE, jA, jB, hap, killE, deadOf, rwE, cD, cO, jC, jD, jE, jF, jG, jH, jI, jJ, jK, jL, jM, jN, jO, jP, jQ, jR, jS, jT, jU, jV, jW, jX, jY, hP, hk, res18, kp18, cnE, cnS])
  exact fin _ _ rfl rfl
theorem put_w {c : Cn} (s : List UInt8) (hs : c.out.length + s.length ≤ 1000000000000) {w : World} {g : Nat} (h : Blk w g 47 (cnA c)) : Calls Tryz.prog 14 #[.pointer (some ⟨g, 0, none⟩), .string ⟨s.toArray⟩] w (CnP g w (cnPut c s) (.tuple #[])) := by
  refine calls_of_Run Tryz.func14 rfl kp14 (S := One g) (ρ := fun _ => reOf g) [.c (.p 0 0), .c (.s s)] Tryz.ntmps14 (cn_at h true (One g) (fun _ => rfl)) (by simp [SV.wf, SC.wf]) (by simp) ?_
  intro C hC hP hk
  have hctr : CtrOk C (fun _ _ _ => none) := by intro f en xs p v h; cases h
  have fin : ∀ (c' : Cn) sl en, cnPut c s = c' → en = [cnE c' true] → Run C [] Tryz.f14.ntmps sl en := fun c' sl en he hen => by
    subst hen
    refine Run_end hC hres14 fun ρ w' hw _ => ?_
    have hb := cn_blk hw rfl (by rw [hC]; exact Nat.zero_lt_one) (by rw [hC]; rfl)
    have hup := hw.up
    rw [hC] at hup
    subst he
    exact ⟨rfl, hup, hb⟩
  (refine VT_ok hctr (rs := res14) true 300 _ _ _ ?_; simp (maxSteps := 1000000) only [VT, jf, jg, jZ, ja, jd, je, VC, qA, qB, qC, qD, qE, qF, qG, qH, qI, qJ, qK, qL, qM, qN, qO, qP, qQ, qR, qS, qT, qU, qV, qW, qX, qY, qZ, qe, qf, qg, qh, qj, qk, ql, qm, qn, qo, qp, qq, q0t, qu, qv, ev, qw, qy, qz, zA, zB, zC, zD, zE, zF, zG, zH, zI, zJ, TE.sv, zK, zL, zM, ↓reduceIte, reduceCtorEq, Value.oneCell', Nat.reduceEqDiff, Nat.reduceAdd, Nat.reduceLT, Nat.reduceBEq, Nat.reduceSub, Nat.reduceLeDiff, zP, zQ, zR, zS, zT, zU, zV, zW, zX, zY, zZ, za, zb, zc, zd, ze, zf, zg, zh, zi, zj, zk, zl, zm, zn, zo, zp, zq, zr, zt, zu, zw, zx, zy, zz, cE, jA, jB, hap, killE, deadOf, rwE, cD, cO, jC, jD, jE, jF, jG, jH, jI, jJ, jK, jL, jM, jN, jO, jP, jQ, jR, jS, jT, jU, jV, jW, jX, jY, hP, hk, res14, kp14, cnE, cnS, Int.toNat_natCast, Int.toNat_zero, Int.le_refl, List.drop_zero])
  exact ⟨by omega, fin _ _ _ rfl rfl⟩
theorem write_w {c : Cn} (n : Int) (hko : c.out.length ≤ 1000000000000) {w : World} {g : Nat} (h : Blk w g 47 (cnA c)) : Calls Tryz.prog 15 #[.pointer (some ⟨g, 0, none⟩), .int .i64 n] w (CnP g w (cnWrite c n).1 (.string ⟨(cnWrite c n).2.toArray⟩)) := by
  refine calls_of_Run Tryz.func15 rfl kp15 (S := One g) (ρ := fun _ => reOf g) [.c (.p 0 0), .c (.i .i64 n)] Tryz.ntmps15 (cn_at h true (One g) (fun _ => rfl)) (by simp [SV.wf, SC.wf]) (by simp) ?_
  intro C hC hP hk
  have hctr : CtrOk C (fun _ _ _ => none) := by intro f en xs p v h; cases h
  have fin : ∀  (c' : Cn) en, (cnWrite c n).1 = c' → en = [cnE c' true] → Fin C res15 (.c (.s (cnWrite c n).2)) en := fun  c' en he hen => by
    subst hen
    refine Fin_cx (v := (.c (.s (cnWrite c n).2))) hC hres15 fun ρ w' hw _ _ => ?_
    have hb := cn_blk hw rfl (by rw [hC]; exact Nat.zero_lt_one) (by rw [hC]; rfl)
    have hup := hw.up
    rw [hC] at hup
    subst he
    exact ⟨rfl, hup, hb⟩
  obtain ⟨k, hk2⟩ : ∃ k, cnHow c n = k := ⟨_, rfl⟩
  have hkl : k ≤ c.out.length := by rw [← hk2]; unfold cnHow; omega
  have h1 : (if (c.out.length : Int) < (if (0 : Int) < n then n else 0) then (c.out.length : Int) else (if (0 : Int) < n then n else 0)) = (k : Int) := by
    rw [← hk2]; unfold cnHow; repeat' split
    all_goals omega
  have h2 : (0 : Int) ≤ (k : Int) := by omega
  have h3 : (k : Int) ≤ (c.out.length : Int) := by omega
  (refine VT_ok hctr (rs := res15) true 300 _ _ _ ?_; simp (maxSteps := 1000000) only [VT, jf, jg, jZ, ja, jd, je, VC, qA, qB, qC, qD, qE, qF, qG, qH, qI, qJ, qK, qL, qM, qN, qO, qP, qQ, qR, qS, qT, qU, qV, qW, qX, qY, qZ, qe, qf, qg, qh, qj, qk, ql, qm, qn, qo, qp, qq, q0t, qu, qv, ev, qw, qy, qz, zA, zB, zC, zD, zE, zF, zG, zH, zI, zJ, TE.sv, zK, zL, zM, ↓reduceIte, reduceCtorEq, Value.oneCell', Nat.reduceEqDiff, Nat.reduceAdd, Nat.reduceLT, Nat.reduceBEq, Nat.reduceSub, Nat.reduceLeDiff, zP, zQ, zR, zS, zT, zU, zV, zW, zX, zY, zZ, za, zb, zc, zd, ze, zf, zg, zh, zi, zj, zk, zl, zm, zn, zo, zp, zq, zr, zt, zu, zw, zx, zy, zz, cE, jA, jB, hap, killE, deadOf, rwE, cD, cO, jC, jD, jE, jF, jG, jH, jI, jJ, jK, jL, jM, jN, jO, jP, jQ, jR, jS, jT, jU, jV, jW, jX, jY, hP, hk, res15, kp15, cnE, cnS, Int.toNat_natCast, Int.toNat_zero, Int.le_refl, List.drop_zero, h1, h2, h3, List.take_length])
  have hw2 : cnWrite c n = ({ c with out := c.out.drop k }, c.out.take k) := by unfold cnWrite; rw [hk2]
  rw [hw2] at fin
  exact fin _ _ rfl rfl
theorem feed_w {c : Cn} (hok : CnOk c) (b : List UInt8) (hbl : b.length ≤ 1000000000000) {w : World} {g : Nat} (h : Blk w g 47 (cnA c)) : Calls Tryz.prog 11 #[.pointer (some ⟨g, 0, none⟩), .string ⟨b.toArray⟩] w (CnP g w (cnFeed c b).1 (.int .i64 (cnFeed c b).2)) := by
  refine calls_of_Run Tryz.func11 rfl kp11 (S := One g) (ρ := fun _ => reOf g) [.c (.p 0 0), .c (.s b)] Tryz.ntmps11 (cn_at h true (One g) (fun _ => rfl)) (by simp [SV.wf, SC.wf]) (by simp) ?_
  intro C hC hP hk
  have hctr : CtrOk C (fun _ _ _ => none) := by intro f en xs p v h; cases h
  have fin : ∀  (c' : Cn) en, (cnFeed c b).1 = c' → en = [cnE c' true] → Fin C res11 (.c (.i .i64 (cnFeed c b).2)) en := fun  c' en he hen => by
    subst hen
    refine Fin_cx (v := (.c (.i .i64 (cnFeed c b).2))) hC hres11 fun ρ w' hw _ _ => ?_
    have hb := cn_blk hw rfl (by rw [hC]; exact Nat.zero_lt_one) (by rw [hC]; rfl)
    have hup := hw.up
    rw [hC] at hup
    subst he
    exact ⟨rfl, hup, hb⟩
  obtain ⟨o1, o2, o3, o4⟩ := hok
  cases he : c.ends with
  | true =>
    (refine VT_ok hctr (rs := res11) true 300 _ _ _ ?_; simp (maxSteps := 1000000) only [VT, jf, jg, jZ, ja, jd, je, VC, qA, qB, qC, qD, qE, qF, qG, qH, qI, qJ, qK, qL, qM, qN, qO, qP, qQ, qR, qS, qT, qU, qV, qW, qX, qY, qZ, qe, qf, qg, qh, qj, qk, ql, qm, qn, qo, qp, qq, q0t, qu, qv, ev, qw, qy, qz, zA, zB, zC, zD, zE, zF, zG, zH, zI, zJ, TE.sv, zK, zL, zM, ↓reduceIte, reduceCtorEq, Value.oneCell', Nat.reduceEqDiff, Nat.reduceAdd, Nat.reduceLT, Nat.reduceBEq, Nat.reduceSub, Nat.reduceLeDiff, zP, zQ, zR, zS, zT, zU, zV, zW, zX, zY, zZ, za, zb, zc, zd, ze, zf, zg, zh, zi, zj, zk, zl, zm, zn, zo, zp, zq, zr, zt, zu, zw, zx, zy, zz, cE, jA, jB, hap, killE, deadOf, rwE, cD, cO, jC, jD, jE, jF, jG, jH, jI, jJ, jK, jL, jM, jN, jO, jP, jQ, jR, jS, jT, jU, jV, jW, jX, jY, hP, hk, res11, kp11, cnE, cnS, Int.toNat_natCast, Int.toNat_zero, Int.le_refl, List.drop_zero, he])
    have hz : cnFeed c b = (c, 0) := by unfold cnFeed; rw [if_pos he]
    rw [hz] at fin
    exact fin _ _ rfl (by simp [cnE, cnS, he])
  | false =>
    obtain ⟨p, hp⟩ : ∃ p, min c.skip.toNat b.length = p := ⟨_, rfl⟩
    obtain ⟨m, hm⟩ : ∃ m, min (b.length - p) (70000 - c.inp.length) = m := ⟨_, rfl⟩
    have hz : cnFeed c b = ({ c with skip := c.skip - (p : Int), inp := c.inp ++ (b.drop p).take m }, ((p + m : Nat) : Int)) := by
      unfold cnFeed; rw [if_neg (by rw [he]; simp)]; simp only [hp, hm]
    have h1 : (if (b.length : Int) < c.skip then (b.length : Int) else c.skip) = (p : Int) := by split <;> omega
    have h2 : (0 : Int) ≤ (p : Int) := by omega
    have h3 : (p : Int) ≤ (b.length : Int) := by omega
    have h4 : IntKind.i64.wrap (c.skip - (p : Int)) = c.skip - (p : Int) := IntWalk.i64_in _ (by omega)
    have h5 : (b.drop p).length = b.length - p := List.length_drop
    have h6 : IntKind.i64.wrap (70000 - (c.inp.length : Int)) = 70000 - (c.inp.length : Int) := IntWalk.i64_in _ (by omega)
    have h7 : (if 70000 - (c.inp.length : Int) < ((b.length - p : Nat) : Int) then 70000 - (c.inp.length : Int) else ((b.length - p : Nat) : Int)) = (m : Int) := by split <;> omega
    have h8 : (0 : Int) ≤ (m : Int) := by omega
    have h9 : (m : Int) ≤ ((b.length - p : Nat) : Int) := by omega
    have h10 : IntKind.i64.wrap ((p : Int) + (m : Int)) = ((p + m : Nat) : Int) := by rw [IntWalk.i64_in _ (by omega)]; rfl
    (refine VT_ok hctr (rs := res11) true 300 _ _ _ ?_; simp (maxSteps := 1000000) only [VT, jf, jg, jZ, ja, jd, je, VC, qA, qB, qC, qD, qE, qF, qG, qH, qI, qJ, qK, qL, qM, qN, qO, qP, qQ, qR, qS, qT, qU, qV, qW, qX, qY, qZ, qe, qf, qg, qh, qj, qk, ql, qm, qn, qo, qp, qq, q0t, qu, qv, ev, qw, qy, qz, zA, zB, zC, zD, zE, zF, zG, zH, zI, zJ, TE.sv, zK, zL, zM, ↓reduceIte, reduceCtorEq, Value.oneCell', Nat.reduceEqDiff, Nat.reduceAdd, Nat.reduceLT, Nat.reduceBEq, Nat.reduceSub, Nat.reduceLeDiff, zP, zQ, zR, zS, zT, zU, zV, zW, zX, zY, zZ, za, zb, zc, zd, ze, zf, zg, zh, zi, zj, zk, zl, zm, zn, zo, zp, zq, zr, zt, zu, zw, zx, zy, zz, cE, jA, jB, hap, killE, deadOf, rwE, cD, cO, jC, jD, jE, jF, jG, jH, jI, jJ, jK, jL, jM, jN, jO, jP, jQ, jR, jS, jT, jU, jV, jW, jX, jY, hP, hk, res11, kp11, cnE, cnS, Int.toNat_natCast, Int.toNat_zero, Int.le_refl, List.drop_zero, he, h1, h2, h3, h4, h5, h6, h7, h8, h9, h10, List.take_length])
    (refine Run_drawD hctr (by rw [hP]; rfl) rs11_7 [] (ensure_type_of% (Cmp.of (by simp (maxSteps := 1000000) only [VC, qA, qB, qC, qD, qE, qF, qG, qH, qI, qJ, qK, qL, qM, qN, qO, qP, qQ, qR, qS, qT, qU, qV, qW, qX, qY, qZ, qe, qf, qg, qh, qj, qk, ql, qm, qn, qo, qp, qq, q0t, qu, qv, ev, qw, qy, qz, zA, zB, zC, zD, zE, zF, zG, zH, zI, zJ, TE.sv, zK, zL, zM, ↓reduceIte, reduceCtorEq, Value.oneCell', Nat.reduceEqDiff, Nat.reduceAdd, Nat.reduceLT, Nat.reduceBEq, Nat.reduceSub, Nat.reduceLeDiff, zP, zQ, zR, zS, zT, zU, zV, zW, zX, zY, zZ, za, zb, zc, zd, ze, zf, zg, zh, zi, zj, zk, zl, zm, zn, zo, zp, zq, zr, zt, zu, zw, zx, zy, zz, cE, jA, jB, hap, killE, deadOf, rwE, cD, cO, jC, jD, jE, jF, jG, jH, jI, jJ, jK, jL, jM, jN, jO, jP, jQ, jR, jS, jT, jU, jV, jW, jX, jY, hP, cnE, cnS, Int.toNat_natCast, Int.toNat_zero, List.drop_zero, Int.le_refl, he, h1, h2, h3, h4, h5, h6, h7, h8, h9, h10, List.take_length]; rfl)) "" Cmp.mk) (by kernel_rfl) (by kernel_rfl) (by first | exact lenB_one _ | kernel_rfl) (by kernel_rfl) (by rfl) (by rfl) (by first | exact firstN_self _ | rfl) (by rfl) ?_ ?_; rotate_left; refine VT_ok hctr (rs := res11) true 300 _ _ _ ?_; simp (maxSteps := 1000000) only [VT, jf, jg, jZ, ja, jd, je, VC, qA, qB, qC, qD, qE, qF, qG, qH, qI, qJ, qK, qL, qM, qN, qO, qP, qQ, qR, qS, qT, qU, qV, qW, qX, qY, qZ, qe, qf, qg, qh, qj, qk, ql, qm, qn, qo, qp, qq, q0t, qu, qv, ev, qw, qy, qz, zA, zB, zC, zD, zE, zF, zG, zH, zI, zJ, TE.sv, zK, zL, zM, ↓reduceIte, reduceCtorEq, Value.oneCell', Nat.reduceEqDiff, Nat.reduceAdd, Nat.reduceLT, Nat.reduceBEq, Nat.reduceSub, Nat.reduceLeDiff, zP, zQ, zR, zS, zT, zU, zV, zW, zX, zY, zZ, za, zb, zc, zd, ze, zf, zg, zh, zi, zj, zk, zl, zm, zn, zo, zp, zq, zr, zt, zu, zw, zx, zy, zz, cE, jA, jB, hap, killE, deadOf, rwE, cD, cO, jC, jD, jE, jF, jG, jH, jI, jJ, jK, jL, jM, jN, jO, jP, jQ, jR, jS, jT, jU, jV, jW, jX, jY, hP, hk, res11, kp11, cnE, cnS, Int.toNat_natCast, Int.toNat_zero, List.drop_zero, Int.le_refl, he, h1, h2, h3, h4, h5, h6, h7, h8, h9, h10, List.take_length]; rotate_left; simp (maxSteps := 1000000) only [VC, qA, qB, qC, qD, qE, qF, qG, qH, qI, qJ, qK, qL, qM, qN, qO, qP, qQ, qR, qS, qT, qU, qV, qW, qX, qY, qZ, qe, qf, qg, qh, qj, qk, ql, qm, qn, qo, qp, qq, q0t, qu, qv, ev, qw, qy, qz, zA, zB, zC, zD, zE, zF, zG, zH, zI, zJ, TE.sv, zK, zL, zM, ↓reduceIte, reduceCtorEq, Value.oneCell', Nat.reduceEqDiff, Nat.reduceAdd, Nat.reduceLT, Nat.reduceBEq, Nat.reduceSub, Nat.reduceLeDiff, zP, zQ, zR, zS, zT, zU, zV, zW, zX, zY, zZ, za, zb, zc, zd, ze, zf, zg, zh, zi, zj, zk, zl, zm, zn, zo, zp, zq, zr, zt, zu, zw, zx, zy, zz, cE, jA, jB, hap, killE, deadOf, rwE, cD, cO, jC, jD, jE, jF, jG, jH, jI, jJ, jK, jL, jM, jN, jO, jP, jQ, jR, jS, jT, jU, jV, jW, jX, jY, hP, cnE, cnS, Int.toNat_natCast, Int.toNat_zero, List.drop_zero, Int.le_refl, he, h1, h2, h3, h4, h5, h6, h7, h8, h9, h10, List.take_length])
    · rw [List.length_take, List.length_drop]; omega
    rw [hz] at fin
    refine fin _ _ rfl ?_
    simp only [cnE, cnS, he]
end Go.Proofs.YtehfcboiimdkbaaGreatDoor
