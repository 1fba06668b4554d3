/- meta.set, walked; set and mode as calls of a walk. Printed by gen_eset3.py. -/
import Derived.Test.YtehfcboiimdkbaaGreatDoorCEmode
import Derived.Test.YtehfcboiimdkbaaGreatDoorBM
namespace Go.Proofs.YtehfcboiimdkbaaGreatDoor
set_option linter.unusedSimpArgs false
set_option linter.unusedVariables false
set_option linter.unusedSimpArgs false
set_option linter.unusedVariables false
set_option maxHeartbeats 8000000
open Go.RowKit
set_option maxRecDepth 100000
theorem dens_ec (ρ : Nat → RE) (c : Cd) : dens ρ (ecS c) = (ecA c).toList := rfl
theorem setl_h {C : Cx} {nE : Nat} {mk : Nat → Prop} {en en' : List EN} {N : Nat} {c : Cd} {f : FuncId} {ys : List SV} {r : Cd × Bool} (hP : C.P = Tryz.prog) (hE : EnvC C) (h0 : zD en N = some (enC c true)) (hN : N < nE) (hmk : ∀ q, ¬ mk q)
    (hent : ∀ args w, (callFunc f args).run Tryz.prog w = .ok (.enter f args) w)
    (H : ∀ (ρ : Nat → RE) w g, Blk w g 54 (ecA c) → (∀ w', Upd (One g) w w' → Env w') → Env w → Calls Tryz.prog f (Value.pointer (some ⟨g, 0, none⟩) :: ys.map (SV.den ρ)).toArray w (SetP g w r))
    (hen : en' = zE en N (enC r.1 true)) : HCall C nE mk en en' f (.c (.p N 0) :: ys) (.c (.b r.2)) := by
  subst hen
  refine ⟨fun args w => by rw [hP]; exact hent args w, ?_⟩
  intro ρ pr w hpr hmn hw hex hwf
  rw [hP]
  have hNp := hpr N hN
  obtain ⟨k1, k2, k3, k4, k5⟩ := ent_blk hw.hp hw.ho hNp h0 (by decide) (by simp [ecS])
  have hmu := hw.mu N _ _ hNp h0
  have hpl : ∀ c, pr c → c < en.length := by
    intro q hq
    refine Decidable.byContradiction fun hd => hex q hq ?_
    rw [nthS_eq, List.getElem?_eq_none (by omega)]
  have hup : ∀ w', Upd (One (ρ N).blk) w w' → Env w' := fun w' hu => hE w' (hw.up.trans hu fun q hq (hs : q = (ρ N).blk) => by
    rcases hmu with h | h
    · rw [hs]; exact h
    · omega)
  have hc := H ρ w (ρ N).blk k1 hup (hE w hw.up)
  simp only [List.map_cons, SV.den, SC.den, k2]
  refine hc.mono ?_
  rintro e w' ⟨rfl, hU, hb⟩
  refine ⟨ρ, fun _ _ => rfl, rfl, trivial, ?_, fun q hq => absurd hq (hmk q)⟩
  have := hw.turn hpl hNp h0 (by show ¬ (54 : Nat) = DEAD; decide) k5 hU (cells' := ecS r.1) (by rw [k3, k4]; simpa [Blk, dens_ec] using hb) (by
    intro x hx
    simp only [ecS, List.mem_cons, List.not_mem_nil, or_false] at hx
    rcases hx with rfl | rfl | rfl | rfl | rfl | rfl | rfl | rfl | rfl | rfl | rfl | rfl | rfl | rfl | rfl | rfl <;> trivial)
  exact this.iff fun q => ⟨fun h => h.resolve_right (hmk q), Or.inl⟩
theorem mode_h {C : Cx} {nE : Nat} {mk : Nat → Prop} {en en' : List EN} {N : Nat} {c : Cd} {s : List UInt8} (hP : C.P = Tryz.prog) (hE : EnvC C) (h0 : zD en N = some (enC c true)) (hN : N < nE) (hmk : ∀ q, ¬ mk q) (hen : en' = zE en N (enC (modeM c s).1 true)) :
    HCall C nE mk en en' 90 [.c (.p N 0), .c (.s s)] (.c (.b (modeM c s).2)) :=
  setl_h hP hE h0 hN hmk (fun args w => Tryz.call90 args w) (fun ρ w g hb hu he => mode_w hb s he hu) hen
theorem u8_eq {x : UInt8} {k : Nat} (hk : k < 256) (h : x = UInt8.ofNat k) : ((x.toNat : Int) == (k : Int)) = true := by
  subst h; simp [UInt8.toNat_ofNat', Nat.mod_eq_of_lt hk]
theorem u8_ne {x : UInt8} {k : Nat} (h : ¬ x = UInt8.ofNat k) : ((x.toNat : Int) == (k : Int)) = false := by
  refine Bool.eq_false_iff.2 fun e => h ?_
  have : (x.toNat : Int) = (k : Int) := eq_of_beq e
  have h2 : x.toNat = k := by omega
  rw [← h2, UInt8.ofNat_toNat]
theorem mset_w {w : World} {g : Nat} {c : Cd} (h : Blk w g 54 (ecA c)) (x : UInt8) (s : List UInt8) (hl : s.length ≤ 9223372036854775807) (hE : Env w) (hEg : ∀ w', Upd (One g) w w' → Env w') :
    Calls Tryz.prog 67 #[.pointer (some ⟨g, 0, none⟩), .int .u8 x.toNat, .string ⟨s.toArray⟩] w (SetP g w (setM c x s)) := by
  refine calls_of_Run Tryz.func67 rfl kp67 (S := One g) (ρ := fun _ => reOf g) [.c (.p 0 0), .c (.i .u8 x.toNat), .c (.s s)] Tryz.ntmps67 (ec_at h true (One g) (fun _ => rfl)) (by simp [SV.wf, SC.wf]) (by simp) ?_
  intro C hC hP hk
  have hEC : EnvC C := fun w' hu => by rw [hC] at hu; exact hEg w' hu
  have hctr := eC0_ok hP hEC
  have fin : ∀ c' b, (c', b) = setM c x s → Fin C res67 (.c (.b b)) [enC c' true] := fun c' b e => set_fin (by rw [hC]; rfl) hres67 e
  have hsv : (signedV s).getD 0 = (secF s).1 := by unfold secF; cases signedV s <;> rfl
  by_cases h0 : x = 67
  · have e0 : ((x.toNat : Int) == 67) = true := u8_eq (k := 67) (by decide) h0
    (refine VT_ok hctr (rs := res67) true 300 _ _ _ ?_; simp (maxSteps := 1000000) only [VT, jf, jg, jZ, ja, jd, je, VC, qA, qB, qC, qD, qE, qF, qG, qH, qI, qJ, qK, qL, qM, qN, qO, qP, qQ, qR, qS, qT, qU, qV, qW, qX, qY, qZ, qe, qf, qg, qh, qj, qk, ql, qm, qn, qo, qp, qq, q0t, qu, qv, ev, qw, qy, qz, zA, zB, zC, zD, zE, zF, zG, zH, zI, zJ, TE.sv, zK, zL, zM, ↓reduceIte, reduceCtorEq, Value.oneCell', Nat.reduceEqDiff, Nat.reduceAdd, Nat.reduceLT, Nat.reduceBEq, Nat.reduceSub, Nat.reduceLeDiff, zP, zQ, zR, zS, zT, zU, zV, zW, zX, zY, zZ, za, zb, zc, zd, ze, zf, zg, zh, zi, zj, zk, zl, zm, zn, zo, zp, zq, zr, zt, zu, zw, zx, zy, zz, cE, jA, jB, hap, killE, deadOf, rwE, cD, cO, jC, jD, jE, jF, jG, jH, jI, jJ, jK, jL, jM, jN, jO, jP, jQ, jR, jS, jT, jU, jV, jW, jX, jY, hP, hk, res67, kp67, eC0, tC0, rowParse, rowMSecs, enC, ecS, e0])
    exact ⟨hl, fin { c with cas := ((parseV s).getD 0 : Nat), hasCas := true } _ (by unfold setM; rw [if_pos h0]; rfl)⟩
  have d0 : ((x.toNat : Int) == 67) = false := u8_ne (k := 67) h0
  by_cases h1 : x = 68
  · have e1 : ((x.toNat : Int) == 68) = true := u8_eq (k := 68) (by decide) h1
    (refine VT_ok hctr (rs := res67) true 300 _ _ _ ?_; simp (maxSteps := 1000000) only [VT, jf, jg, jZ, ja, jd, je, VC, qA, qB, qC, qD, qE, qF, qG, qH, qI, qJ, qK, qL, qM, qN, qO, qP, qQ, qR, qS, qT, qU, qV, qW, qX, qY, qZ, qe, qf, qg, qh, qj, qk, ql, qm, qn, qo, qp, qq, q0t, qu, qv, ev, qw, qy, qz, zA, zB, zC, zD, zE, zF, zG, zH, zI, zJ, TE.sv, zK, zL, zM, ↓reduceIte, reduceCtorEq, Value.oneCell', Nat.reduceEqDiff, Nat.reduceAdd, Nat.reduceLT, Nat.reduceBEq, Nat.reduceSub, Nat.reduceLeDiff, zP, zQ, zR, zS, zT, zU, zV, zW, zX, zY, zZ, za, zb, zc, zd, ze, zf, zg, zh, zi, zj, zk, zl, zm, zn, zo, zp, zq, zr, zt, zu, zw, zx, zy, zz, cE, jA, jB, hap, killE, deadOf, rwE, cD, cO, jC, jD, jE, jF, jG, jH, jI, jJ, jK, jL, jM, jN, jO, jP, jQ, jR, jS, jT, jU, jV, jW, jX, jY, hP, hk, res67, kp67, eC0, tC0, rowParse, rowMSecs, enC, ecS, d0, e1])
    exact ⟨hl, fin { c with delta := ((parseV s).getD 0 : Nat) } _ (by unfold setM; rw [if_neg h0, if_pos h1]; rfl)⟩
  have d1 : ((x.toNat : Int) == 68) = false := u8_ne (k := 68) h1
  by_cases h2 : x = 74
  · have e2 : ((x.toNat : Int) == 74) = true := u8_eq (k := 74) (by decide) h2
    (refine VT_ok hctr (rs := res67) true 300 _ _ _ ?_; simp (maxSteps := 1000000) only [VT, jf, jg, jZ, ja, jd, je, VC, qA, qB, qC, qD, qE, qF, qG, qH, qI, qJ, qK, qL, qM, qN, qO, qP, qQ, qR, qS, qT, qU, qV, qW, qX, qY, qZ, qe, qf, qg, qh, qj, qk, ql, qm, qn, qo, qp, qq, q0t, qu, qv, ev, qw, qy, qz, zA, zB, zC, zD, zE, zF, zG, zH, zI, zJ, TE.sv, zK, zL, zM, ↓reduceIte, reduceCtorEq, Value.oneCell', Nat.reduceEqDiff, Nat.reduceAdd, Nat.reduceLT, Nat.reduceBEq, Nat.reduceSub, Nat.reduceLeDiff, zP, zQ, zR, zS, zT, zU, zV, zW, zX, zY, zZ, za, zb, zc, zd, ze, zf, zg, zh, zi, zj, zk, zl, zm, zn, zo, zp, zq, zr, zt, zu, zw, zx, zy, zz, cE, jA, jB, hap, killE, deadOf, rwE, cD, cO, jC, jD, jE, jF, jG, jH, jI, jJ, jK, jL, jM, jN, jO, jP, jQ, jR, jS, jT, jU, jV, jW, jX, jY, hP, hk, res67, kp67, eC0, tC0, rowParse, rowMSecs, enC, ecS, d0, d1, e2])
    exact ⟨hl, fin { c with init := ((parseV s).getD 0 : Nat) } _ (by unfold setM; rw [if_neg h0, if_neg h1, if_pos h2]; rfl)⟩
  have d2 : ((x.toNat : Int) == 74) = false := u8_ne (k := 74) h2
  by_cases h3 : x = 70
  · have e3 : ((x.toNat : Int) == 70) = true := u8_eq (k := 70) (by decide) h3
    cases hp : parseV s with
    | none =>
      (refine VT_ok hctr (rs := res67) true 300 _ _ _ ?_; simp (maxSteps := 1000000) only [VT, jf, jg, jZ, ja, jd, je, VC, qA, qB, qC, qD, qE, qF, qG, qH, qI, qJ, qK, qL, qM, qN, qO, qP, qQ, qR, qS, qT, qU, qV, qW, qX, qY, qZ, qe, qf, qg, qh, qj, qk, ql, qm, qn, qo, qp, qq, q0t, qu, qv, ev, qw, qy, qz, zA, zB, zC, zD, zE, zF, zG, zH, zI, zJ, TE.sv, zK, zL, zM, ↓reduceIte, reduceCtorEq, Value.oneCell', Nat.reduceEqDiff, Nat.reduceAdd, Nat.reduceLT, Nat.reduceBEq, Nat.reduceSub, Nat.reduceLeDiff, zP, zQ, zR, zS, zT, zU, zV, zW, zX, zY, zZ, za, zb, zc, zd, ze, zf, zg, zh, zi, zj, zk, zl, zm, zn, zo, zp, zq, zr, zt, zu, zw, zx, zy, zz, cE, jA, jB, hap, killE, deadOf, rwE, cD, cO, jC, jD, jE, jF, jG, jH, jI, jJ, jK, jL, jM, jN, jO, jP, jQ, jR, jS, jT, jU, jV, jW, jX, jY, hP, hk, res67, kp67, eC0, tC0, rowParse, rowMSecs, enC, ecS, d0, d1, d2, e3, hp, Option.getD_none, Option.isSome_none])
      exact ⟨hl, fin { c with flags := IntKind.u32.wrap ((0 : Nat) : Int) } _ (by unfold setM; rw [if_neg h0, if_neg h1, if_neg h2, if_pos h3]; simp [numF, hp])⟩
    | some v =>
      (refine VT_ok hctr (rs := res67) true 300 _ _ _ ?_; simp (maxSteps := 1000000) only [VT, jf, jg, jZ, ja, jd, je, VC, qA, qB, qC, qD, qE, qF, qG, qH, qI, qJ, qK, qL, qM, qN, qO, qP, qQ, qR, qS, qT, qU, qV, qW, qX, qY, qZ, qe, qf, qg, qh, qj, qk, ql, qm, qn, qo, qp, qq, q0t, qu, qv, ev, qw, qy, qz, zA, zB, zC, zD, zE, zF, zG, zH, zI, zJ, TE.sv, zK, zL, zM, ↓reduceIte, reduceCtorEq, Value.oneCell', Nat.reduceEqDiff, Nat.reduceAdd, Nat.reduceLT, Nat.reduceBEq, Nat.reduceSub, Nat.reduceLeDiff, zP, zQ, zR, zS, zT, zU, zV, zW, zX, zY, zZ, za, zb, zc, zd, ze, zf, zg, zh, zi, zj, zk, zl, zm, zn, zo, zp, zq, zr, zt, zu, zw, zx, zy, zz, cE, jA, jB, hap, killE, deadOf, rwE, cD, cO, jC, jD, jE, jF, jG, jH, jI, jJ, jK, jL, jM, jN, jO, jP, jQ, jR, jS, jT, jU, jV, jW, jX, jY, hP, hk, res67, kp67, eC0, tC0, rowParse, rowMSecs, enC, ecS, d0, d1, d2, e3, hp, Option.getD_some, Option.isSome_some])
      exact ⟨hl, fin { c with flags := IntKind.u32.wrap (v : Int) } _ (by unfold setM; rw [if_neg h0, if_neg h1, if_neg h2, if_pos h3]; simp [numF, hp])⟩
  have d3 : ((x.toNat : Int) == 70) = false := u8_ne (k := 70) h3
  by_cases h4 : x = 77
  · have e4 : ((x.toNat : Int) == 77) = true := u8_eq (k := 77) (by decide) h4
    (refine VT_ok hctr (rs := res67) true 300 _ _ _ ?_; simp (maxSteps := 1000000) only [VT, jf, jg, jZ, ja, jd, je, VC, qA, qB, qC, qD, qE, qF, qG, qH, qI, qJ, qK, qL, qM, qN, qO, qP, qQ, qR, qS, qT, qU, qV, qW, qX, qY, qZ, qe, qf, qg, qh, qj, qk, ql, qm, qn, qo, qp, qq, q0t, qu, qv, ev, qw, qy, qz, zA, zB, zC, zD, zE, zF, zG, zH, zI, zJ, TE.sv, zK, zL, zM, ↓reduceIte, reduceCtorEq, Value.oneCell', Nat.reduceEqDiff, Nat.reduceAdd, Nat.reduceLT, Nat.reduceBEq, Nat.reduceSub, Nat.reduceLeDiff, zP, zQ, zR, zS, zT, zU, zV, zW, zX, zY, zZ, za, zb, zc, zd, ze, zf, zg, zh, zi, zj, zk, zl, zm, zn, zo, zp, zq, zr, zt, zu, zw, zx, zy, zz, cE, jA, jB, hap, killE, deadOf, rwE, cD, cO, jC, jD, jE, jF, jG, jH, jI, jJ, jK, jL, jM, jN, jO, jP, jQ, jR, jS, jT, jU, jV, jW, jX, jY, hP, hk, res67, kp67, eC0, tC0, rowParse, rowMSecs, enC, ecS, d0, d1, d2, d3, e4])
    refine Run_hcall rfl (.c (.b (modeM c s).2)) _ (mode_h (C := C) hP hEC (N := 0) (c := c) (s := s) rfl (by simp [zG]) (fun q hq => by simp only [zG, zE] at hq; omega) rfl) (by simp [zG, zE]) (by simp) ?_
    (refine VT_ok hctr (rs := res67) true 300 _ _ _ ?_; simp (maxSteps := 1000000) only [VT, jf, jg, jZ, ja, jd, je, VC, qA, qB, qC, qD, qE, qF, qG, qH, qI, qJ, qK, qL, qM, qN, qO, qP, qQ, qR, qS, qT, qU, qV, qW, qX, qY, qZ, qe, qf, qg, qh, qj, qk, ql, qm, qn, qo, qp, qq, q0t, qu, qv, ev, qw, qy, qz, zA, zB, zC, zD, zE, zF, zG, zH, zI, zJ, TE.sv, zK, zL, zM, ↓reduceIte, reduceCtorEq, Value.oneCell', Nat.reduceEqDiff, Nat.reduceAdd, Nat.reduceLT, Nat.reduceBEq, Nat.reduceSub, Nat.reduceLeDiff, zP, zQ, zR, zS, zT, zU, zV, zW, zX, zY, zZ, za, zb, zc, zd, ze, zf, zg, zh, zi, zj, zk, zl, zm, zn, zo, zp, zq, zr, zt, zu, zw, zx, zy, zz, cE, jA, jB, hap, killE, deadOf, rwE, cD, cO, jC, jD, jE, jF, jG, jH, jI, jJ, jK, jL, jM, jN, jO, jP, jQ, jR, jS, jT, jU, jV, jW, jX, jY, hP, hk, res67, kp67, eC0, tC0, rowParse, rowMSecs, enC, ecS, d0, d1, d2, d3, e4, zE])
    exact fin (modeM c s).1 _ (by unfold setM; rw [if_neg h0, if_neg h1, if_neg h2, if_neg h3, if_pos h4])
  have d4 : ((x.toNat : Int) == 77) = false := u8_ne (k := 77) h4
  by_cases h5 : x = 78
  · have e5 : ((x.toNat : Int) == 78) = true := u8_eq (k := 78) (by decide) h5
    (refine VT_ok hctr (rs := res67) true 300 _ _ _ ?_; simp (maxSteps := 1000000) only [VT, jf, jg, jZ, ja, jd, je, VC, qA, qB, qC, qD, qE, qF, qG, qH, qI, qJ, qK, qL, qM, qN, qO, qP, qQ, qR, qS, qT, qU, qV, qW, qX, qY, qZ, qe, qf, qg, qh, qj, qk, ql, qm, qn, qo, qp, qq, q0t, qu, qv, ev, qw, qy, qz, zA, zB, zC, zD, zE, zF, zG, zH, zI, zJ, TE.sv, zK, zL, zM, ↓reduceIte, reduceCtorEq, Value.oneCell', Nat.reduceEqDiff, Nat.reduceAdd, Nat.reduceLT, Nat.reduceBEq, Nat.reduceSub, Nat.reduceLeDiff, zP, zQ, zR, zS, zT, zU, zV, zW, zX, zY, zZ, za, zb, zc, zd, ze, zf, zg, zh, zi, zj, zk, zl, zm, zn, zo, zp, zq, zr, zt, zu, zw, zx, zy, zz, cE, jA, jB, hap, killE, deadOf, rwE, cD, cO, jC, jD, jE, jF, jG, jH, jI, jJ, jK, jL, jM, jN, jO, jP, jQ, jR, jS, jT, jU, jV, jW, jX, jY, hP, hk, res67, kp67, eC0, tC0, rowParse, rowMSecs, enC, ecS, d0, d1, d2, d3, d4, e5])
    exact ⟨hl, fin { c with viv := true, vive := (signedV s).getD 0 } _ (by unfold setM; rw [if_neg h0, if_neg h1, if_neg h2, if_neg h3, if_neg h4, if_pos h5]; simp only [← hsv])⟩
  have d5 : ((x.toNat : Int) == 78) = false := u8_ne (k := 78) h5
  by_cases h6 : x = 82
  · have e6 : ((x.toNat : Int) == 82) = true := u8_eq (k := 82) (by decide) h6
    (refine VT_ok hctr (rs := res67) true 300 _ _ _ ?_; simp (maxSteps := 1000000) only [VT, jf, jg, jZ, ja, jd, je, VC, qA, qB, qC, qD, qE, qF, qG, qH, qI, qJ, qK, qL, qM, qN, qO, qP, qQ, qR, qS, qT, qU, qV, qW, qX, qY, qZ, qe, qf, qg, qh, qj, qk, ql, qm, qn, qo, qp, qq, q0t, qu, qv, ev, qw, qy, qz, zA, zB, zC, zD, zE, zF, zG, zH, zI, zJ, TE.sv, zK, zL, zM, ↓reduceIte, reduceCtorEq, Value.oneCell', Nat.reduceEqDiff, Nat.reduceAdd, Nat.reduceLT, Nat.reduceBEq, Nat.reduceSub, Nat.reduceLeDiff, zP, zQ, zR, zS, zT, zU, zV, zW, zX, zY, zZ, za, zb, zc, zd, ze, zf, zg, zh, zi, zj, zk, zl, zm, zn, zo, zp, zq, zr, zt, zu, zw, zx, zy, zz, cE, jA, jB, hap, killE, deadOf, rwE, cD, cO, jC, jD, jE, jF, jG, jH, jI, jJ, jK, jL, jM, jN, jO, jP, jQ, jR, jS, jT, jU, jV, jW, jX, jY, hP, hk, res67, kp67, eC0, tC0, rowParse, rowMSecs, enC, ecS, d0, d1, d2, d3, d4, d5, e6])
    exact ⟨hl, fin { c with recache := (signedV s).getD 0 } _ (by unfold setM; rw [if_neg h0, if_neg h1, if_neg h2, if_neg h3, if_neg h4, if_neg h5, if_pos h6]; simp only [← hsv])⟩
  have d6 : ((x.toNat : Int) == 82) = false := u8_ne (k := 82) h6
  by_cases h7 : x = 84
  · have e7 : ((x.toNat : Int) == 84) = true := u8_eq (k := 84) (by decide) h7
    (refine VT_ok hctr (rs := res67) true 300 _ _ _ ?_; simp (maxSteps := 1000000) only [VT, jf, jg, jZ, ja, jd, je, VC, qA, qB, qC, qD, qE, qF, qG, qH, qI, qJ, qK, qL, qM, qN, qO, qP, qQ, qR, qS, qT, qU, qV, qW, qX, qY, qZ, qe, qf, qg, qh, qj, qk, ql, qm, qn, qo, qp, qq, q0t, qu, qv, ev, qw, qy, qz, zA, zB, zC, zD, zE, zF, zG, zH, zI, zJ, TE.sv, zK, zL, zM, ↓reduceIte, reduceCtorEq, Value.oneCell', Nat.reduceEqDiff, Nat.reduceAdd, Nat.reduceLT, Nat.reduceBEq, Nat.reduceSub, Nat.reduceLeDiff, zP, zQ, zR, zS, zT, zU, zV, zW, zX, zY, zZ, za, zb, zc, zd, ze, zf, zg, zh, zi, zj, zk, zl, zm, zn, zo, zp, zq, zr, zt, zu, zw, zx, zy, zz, cE, jA, jB, hap, killE, deadOf, rwE, cD, cO, jC, jD, jE, jF, jG, jH, jI, jJ, jK, jL, jM, jN, jO, jP, jQ, jR, jS, jT, jU, jV, jW, jX, jY, hP, hk, res67, kp67, eC0, tC0, rowParse, rowMSecs, enC, ecS, d0, d1, d2, d3, d4, d5, d6, e7])
    exact ⟨hl, fin { c with hasExp := c.op != 2, exp := (signedV s).getD 0 } _ (by unfold setM; rw [if_neg h0, if_neg h1, if_neg h2, if_neg h3, if_neg h4, if_neg h5, if_neg h6, if_pos h7]; simp only [← hsv]; by_cases ho : c.op = 2 <;> simp [ho])⟩
  have d7 : ((x.toNat : Int) == 84) = false := u8_ne (k := 84) h7
  by_cases h8 : x = 79
  · have e8 : ((x.toNat : Int) == 79) = true := u8_eq (k := 79) (by decide) h8
    by_cases hs : s = []
    · have hs1 : (s == []) = true := by rw [hs]; rfl
      (refine VT_ok hctr (rs := res67) true 300 _ _ _ ?_; simp (maxSteps := 1000000) only [VT, jf, jg, jZ, ja, jd, je, VC, qA, qB, qC, qD, qE, qF, qG, qH, qI, qJ, qK, qL, qM, qN, qO, qP, qQ, qR, qS, qT, qU, qV, qW, qX, qY, qZ, qe, qf, qg, qh, qj, qk, ql, qm, qn, qo, qp, qq, q0t, qu, qv, ev, qw, qy, qz, zA, zB, zC, zD, zE, zF, zG, zH, zI, zJ, TE.sv, zK, zL, zM, ↓reduceIte, reduceCtorEq, Value.oneCell', Nat.reduceEqDiff, Nat.reduceAdd, Nat.reduceLT, Nat.reduceBEq, Nat.reduceSub, Nat.reduceLeDiff, zP, zQ, zR, zS, zT, zU, zV, zW, zX, zY, zZ, za, zb, zc, zd, ze, zf, zg, zh, zi, zj, zk, zl, zm, zn, zo, zp, zq, zr, zt, zu, zw, zx, zy, zz, cE, jA, jB, hap, killE, deadOf, rwE, cD, cO, jC, jD, jE, jF, jG, jH, jI, jJ, jK, jL, jM, jN, jO, jP, jQ, jR, jS, jT, jU, jV, jW, jX, jY, hP, hk, res67, kp67, eC0, tC0, rowParse, rowMSecs, enC, ecS, d0, d1, d2, d3, d4, d5, d6, d7, e8, hs1, Bool.not_true])
      exact fin c _ (by unfold setM; rw [if_neg h0, if_neg h1, if_neg h2, if_neg h3, if_neg h4, if_neg h5, if_neg h6, if_neg h7, if_pos h8]; simp [hs])
    · have hs1 : (s == []) = false := by simpa using hs
      (refine VT_ok hctr (rs := res67) true 300 _ _ _ ?_; simp (maxSteps := 1000000) only [VT, jf, jg, jZ, ja, jd, je, VC, qA, qB, qC, qD, qE, qF, qG, qH, qI, qJ, qK, qL, qM, qN, qO, qP, qQ, qR, qS, qT, qU, qV, qW, qX, qY, qZ, qe, qf, qg, qh, qj, qk, ql, qm, qn, qo, qp, qq, q0t, qu, qv, ev, qw, qy, qz, zA, zB, zC, zD, zE, zF, zG, zH, zI, zJ, TE.sv, zK, zL, zM, ↓reduceIte, reduceCtorEq, Value.oneCell', Nat.reduceEqDiff, Nat.reduceAdd, Nat.reduceLT, Nat.reduceBEq, Nat.reduceSub, Nat.reduceLeDiff, zP, zQ, zR, zS, zT, zU, zV, zW, zX, zY, zZ, za, zb, zc, zd, ze, zf, zg, zh, zi, zj, zk, zl, zm, zn, zo, zp, zq, zr, zt, zu, zw, zx, zy, zz, cE, jA, jB, hap, killE, deadOf, rwE, cD, cO, jC, jD, jE, jF, jG, jH, jI, jJ, jK, jL, jM, jN, jO, jP, jQ, jR, jS, jT, jU, jV, jW, jX, jY, hP, hk, res67, kp67, eC0, tC0, rowParse, rowMSecs, enC, ecS, d0, d1, d2, d3, d4, d5, d6, d7, e8, hs1, Bool.not_false])
      exact fin c _ (by unfold setM; rw [if_neg h0, if_neg h1, if_neg h2, if_neg h3, if_neg h4, if_neg h5, if_neg h6, if_neg h7, if_pos h8]; simp [hs]; omega)
  have d8 : ((x.toNat : Int) == 79) = false := u8_ne (k := 79) h8
  cases hi : c.inval with
  | true =>
    (refine VT_ok hctr (rs := res67) true 300 _ _ _ ?_; simp (maxSteps := 1000000) only [VT, jf, jg, jZ, ja, jd, je, VC, qA, qB, qC, qD, qE, qF, qG, qH, qI, qJ, qK, qL, qM, qN, qO, qP, qQ, qR, qS, qT, qU, qV, qW, qX, qY, qZ, qe, qf, qg, qh, qj, qk, ql, qm, qn, qo, qp, qq, q0t, qu, qv, ev, qw, qy, qz, zA, zB, zC, zD, zE, zF, zG, zH, zI, zJ, TE.sv, zK, zL, zM, ↓reduceIte, reduceCtorEq, Value.oneCell', Nat.reduceEqDiff, Nat.reduceAdd, Nat.reduceLT, Nat.reduceBEq, Nat.reduceSub, Nat.reduceLeDiff, zP, zQ, zR, zS, zT, zU, zV, zW, zX, zY, zZ, za, zb, zc, zd, ze, zf, zg, zh, zi, zj, zk, zl, zm, zn, zo, zp, zq, zr, zt, zu, zw, zx, zy, zz, cE, jA, jB, hap, killE, deadOf, rwE, cD, cO, jC, jD, jE, jF, jG, jH, jI, jJ, jK, jL, jM, jN, jO, jP, jQ, jR, jS, jT, jU, jV, jW, jX, jY, hP, hk, res67, kp67, eC0, tC0, rowParse, rowMSecs, enC, ecS, d0, d1, d2, d3, d4, d5, d6, d7, d8, hi])
    exact fin { c with inval := true } _ (by unfold setM; rw [if_neg h0, if_neg h1, if_neg h2, if_neg h3, if_neg h4, if_neg h5, if_neg h6, if_neg h7, if_neg h8]; simp [hi]; cases s <;> simp)
  | false =>
    by_cases hx : x = 73
    · have e9 : ((x.toNat : Int) == 73) = true := u8_eq (k := 73) (by decide) hx
      (refine VT_ok hctr (rs := res67) true 300 _ _ _ ?_; simp (maxSteps := 1000000) only [VT, jf, jg, jZ, ja, jd, je, VC, qA, qB, qC, qD, qE, qF, qG, qH, qI, qJ, qK, qL, qM, qN, qO, qP, qQ, qR, qS, qT, qU, qV, qW, qX, qY, qZ, qe, qf, qg, qh, qj, qk, ql, qm, qn, qo, qp, qq, q0t, qu, qv, ev, qw, qy, qz, zA, zB, zC, zD, zE, zF, zG, zH, zI, zJ, TE.sv, zK, zL, zM, ↓reduceIte, reduceCtorEq, Value.oneCell', Nat.reduceEqDiff, Nat.reduceAdd, Nat.reduceLT, Nat.reduceBEq, Nat.reduceSub, Nat.reduceLeDiff, zP, zQ, zR, zS, zT, zU, zV, zW, zX, zY, zZ, za, zb, zc, zd, ze, zf, zg, zh, zi, zj, zk, zl, zm, zn, zo, zp, zq, zr, zt, zu, zw, zx, zy, zz, cE, jA, jB, hap, killE, deadOf, rwE, cD, cO, jC, jD, jE, jF, jG, jH, jI, jJ, jK, jL, jM, jN, jO, jP, jQ, jR, jS, jT, jU, jV, jW, jX, jY, hP, hk, res67, kp67, eC0, tC0, rowParse, rowMSecs, enC, ecS, d0, d1, d2, d3, d4, d5, d6, d7, d8, hi, e9])
      exact fin { c with inval := true } _ (by unfold setM; rw [if_neg h0, if_neg h1, if_neg h2, if_neg h3, if_neg h4, if_neg h5, if_neg h6, if_neg h7, if_neg h8]; simp [hi, hx]; cases s <;> simp)
    · have e9 : ((x.toNat : Int) == 73) = false := u8_ne (k := 73) hx
      (refine VT_ok hctr (rs := res67) true 300 _ _ _ ?_; simp (maxSteps := 1000000) only [VT, jf, jg, jZ, ja, jd, je, VC, qA, qB, qC, qD, qE, qF, qG, qH, qI, qJ, qK, qL, qM, qN, qO, qP, qQ, qR, qS, qT, qU, qV, qW, qX, qY, qZ, qe, qf, qg, qh, qj, qk, ql, qm, qn, qo, qp, qq, q0t, qu, qv, ev, qw, qy, qz, zA, zB, zC, zD, zE, zF, zG, zH, zI, zJ, TE.sv, zK, zL, zM, ↓reduceIte, reduceCtorEq, Value.oneCell', Nat.reduceEqDiff, Nat.reduceAdd, Nat.reduceLT, Nat.reduceBEq, Nat.reduceSub, Nat.reduceLeDiff, zP, zQ, zR, zS, zT, zU, zV, zW, zX, zY, zZ, za, zb, zc, zd, ze, zf, zg, zh, zi, zj, zk, zl, zm, zn, zo, zp, zq, zr, zt, zu, zw, zx, zy, zz, cE, jA, jB, hap, killE, deadOf, rwE, cD, cO, jC, jD, jE, jF, jG, jH, jI, jJ, jK, jL, jM, jN, jO, jP, jQ, jR, jS, jT, jU, jV, jW, jX, jY, hP, hk, res67, kp67, eC0, tC0, rowParse, rowMSecs, enC, ecS, d0, d1, d2, d3, d4, d5, d6, d7, d8, hi, e9])
      exact fin { c with inval := false } _ (by unfold setM; rw [if_neg h0, if_neg h1, if_neg h2, if_neg h3, if_neg h4, if_neg h5, if_neg h6, if_neg h7, if_neg h8]; simp [hi, hx]; cases s <;> simp)
end Go.Proofs.YtehfcboiimdkbaaGreatDoor
