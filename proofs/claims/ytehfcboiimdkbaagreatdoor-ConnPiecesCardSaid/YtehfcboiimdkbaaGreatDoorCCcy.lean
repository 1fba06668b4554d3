/- conn.New, conn.Next as calls of a walk; shown of the laws on connections. Printed by gen_cy.py. -/
import Derived.Test.YtehfcboiimdkbaaGreatDoorCCcx
namespace Go.Proofs.YtehfcboiimdkbaaGreatDoor
set_option linter.unusedSimpArgs false
set_option linter.unusedVariables false
set_option linter.unusedSimpArgs false
set_option linter.unusedVariables false
set_option maxHeartbeats 8000000
open Go.RowKit
set_option maxRecDepth 100000
def NewP (w : World) (e : Ending) (w' : World) : Prop := ∃ b, w.heap.size ≤ b ∧ e = .returned (.pointer (some ⟨b, 0, none⟩)) ∧ Blk w' b 47 (cnA Cn.zero) ∧ Below w.heap.size w w'
theorem new_w (w : World) : Calls Tryz.prog 10 #[] w (NewP w) := by
  refine calls_of_Run Tryz.func10 rfl kp10 (S := Non) (ρ := fun _ => reOf 0) (en := []) [] Tryz.ntmps10 (At.nil _ _ _) (by simp) (by simp) ?_
  intro C hC hP hk
  have hctr : CtrOk C (fun _ _ _ => none) := by intro f en xs p v h; cases h
  (refine VT_ok hctr (rs := res10) true 300 _ _ _ ?_; simp (maxSteps := 1000000) only [VT, jf, jg, jZ, ja, jd, je, VC, qA, qB, qC, qD, qE, qF, qG, qH, qI, qJ, qK, qL, qM, qN, qO, qP, qQ, qR, qS, qT, qU, qV, qW, qX, qY, qZ, qe, qf, qg, qh, qj, qk, ql, qm, qn, qo, qp, qq, q0t, qu, qv, ev, qw, qy, qz, zA, zB, zC, zD, zE, zF, zG, zH, zI, zJ, TE.sv, zK, zL, zM, ↓reduceIte, reduceCtorEq, Value.oneCell', Nat.reduceEqDiff, Nat.reduceAdd, Nat.reduceLT, Nat.reduceBEq, Nat.reduceSub, Nat.reduceLeDiff, zP, zQ, zR, zS, zT, zU, zV, zW, zX, zY, zZ, za, zb, zc, zd, ze, zf, zg, zh, zi, zj, zk, zl, zm, zn, zo, zp, zq, zr, zt, zu, zw, zx, zy, zz, cE, jA, jB, hap, killE, deadOf, rwE, cD, cO, jC, jD, jE, jF, jG, jH, jI, jJ, jK, jL, jM, jN, jO, jP, jQ, jR, jS, jT, jU, jV, jW, jX, jY, hP, hk, res10, kp10, cnE])
  refine Fin_cx (v := .c (.p 0 0)) hC hres10 fun ρ w' hw _ _ => ?_
  have hup := hw.up
  rw [hC] at hup
  obtain ⟨k1, k2, k3, k4, k5⟩ := ent_blk (c := 0) hw.hp hw.ho (by show 0 < 1; decide) rfl (by show ¬ ((47 : Nat) = DEAD); decide) (by simp)
  have hmu := (hw.mu 0 _ _ (by show 0 < 1; decide) rfl).resolve_left (by rw [hC]; exact fun h => h)
  rw [hC] at hmu
  exact ⟨(ρ 0).blk, hmu, by show Ending.returned (ptrOf ρ 0 0) = _; rw [k2], k1, hup.to_below⟩
theorem new_h {C : Cx} {nE N : Nat} {mk : Nat → Prop} {en en' : List EN} (hP : C.P = Tryz.prog) (hmk : ∀ q, mk q ↔ q = N) (hn0 : C.n0 ≤ N) (hN : zD en' N = some (cnE Cn.zero true)) (hq : ∀ q, q ≠ N → zD en' q = zD en q) :
    HCall C nE mk en en' 10 [] (.c (.p N 0)) := by
  refine fresh_h (vals := (cnA Cn.zero).toList) (fun args w => by rw [hP]; exact Tryz.call10 args w) hmk hn0 hN hq (by show ¬ ((47 : Nat) = DEAD); decide) (fun ρ => dens_cn ρ _) (fun pr => cn_wf pr _) (fun pr h => h) ?_
  intro ρ pr w hw _ _
  rw [hP]
  refine (new_w w).mono ?_
  rintro z w' ⟨b, hb, rfl, hblk, hbl⟩
  refine ⟨⟨b, [], [], 0, none⟩, ⟨rfl, ⟨rfl, rfl⟩, fun _ => ⟨hb, ?_⟩, fun h => absurd rfl h, fun h => absurd rfl h⟩, fun ρ' _ hr => ?_, hbl⟩
  · have : w'.heap[b]? = some (.cells (cnA Cn.zero) 47 (0, 0)) := hblk
    simpa [cnE] using this
  · show _ = Ending.returned (ptrOf ρ' N 0)
    simp only [ptrOf, hr, List.length_nil, Nat.zero_add]
theorem Run_new {C : Cx} {nt : Nat} {sl : List (Nat × SV)} {en : List EN} {k : List KI} {dst : Option Nat} {ty : TypeId} {pos : String} {af : Array Edge} {all r : List Oper} {args : Array Operand} {tys : Array TypeId} (hP : C.P = Tryz.prog) (hn0 : C.n0 ≤ zG en)
    (hxs : qw sl args.toList = some []) (hd : ∀ d, dst = some d → d < nt) (hK : Run C (.ops all r :: k) nt (jN dst (.c (.p (zG en) 0)) sl) (zF en (cnE Cn.zero true))) :
    Run C (.ops all (⟨dst, .call ⟨.value (.func 10), args, tys⟩, ty, pos, af, none⟩ :: r) :: k) nt sl en := by
  have hl : zG (zF en (cnE Cn.zero true)) = zG en + 1 := len_snoc
  exact Run_hcall hxs _ _ (new_h (N := zG en) hP (fun q => by rw [hl]; omega) hn0 nth_snoc (fun q h => nth_snoc_ne h)) (by rw [hl]; omega) hd hK
theorem next_h {C : Cx} {nE G N : Nat} {mk : Nat → Prop} {en en' : List EN} {c : Cn} {x : Cn × Gq × Bool} (hok : CnOk c) (hx : cnNext c = x) (hP : C.P = Tryz.prog) (hE : ∀ w, Upd C.S C.w0 w → EnvT w) (hG : zD en G = some (cnE c true)) (hGn : G < nE) (hmk : ∀ q, mk q ↔ q = N ∨ q = N + 1) (hn0 : C.n0 ≤ N)
    (hN : zD en' N = some (cmG x.2.1)) (hM : zD en' (N + 1) = some (flG x.2.1)) (hq : ∀ q, q ≠ N → q ≠ N + 1 → zD en' q = zD (zE en G (cnE x.1 true)) q) :
    HCall C nE mk en en' 13 [.c (.p G 0)] (.t [.g (gqZ x.2.1 N), .c (.b x.2.2)]) := by
  refine freshT2_h (N := N) (M := N + 1) (G := G) (ty := (47, 0, whole)) (cells := cnS c) (cells' := cnS x.1) (e1 := cmG x.2.1) (e2 := flG x.2.1) (vals1 := ecV x.2.1.cmds) (vals2 := x.2.1.flags.map encW) (fun args w => by rw [hP]; exact Tryz.call13 args w) hmk (by omega) hn0 (by omega) hN hM hG hGn (by show ¬ (47 : Nat) = DEAD; decide) (by simp [cnS]) (fun pr => cn_wf pr _) hq (by show ¬ (54 : Nat) = DEAD; decide) (by show ¬ (9 : Nat) = DEAD; decide) (fun ρ => ec_den ρ _) (fun ρ => st_den ρ _) (fun pr => ec_wf pr _) (fun pr => st_wf pr _) (fun pr h1 h2 => ?_) ?_
  · intro y hy
    simp only [List.mem_cons, List.not_mem_nil, or_false] at hy
    rcases hy with rfl | rfl
    · exact gqR_wf h1 h2
    · trivial
  · intro ρ pr w hw hpr _
    have hGp := hpr G hGn
    obtain ⟨k1, k2, k3, k4, k5⟩ := ent_blk hw.hp hw.ho hGp hG (by decide) (by simp [cnS])
    have hmu := hw.mu G _ _ hGp hG
    have hup : ∀ w', Upd (One (ρ G).blk) w w' → EnvT w' := fun w' hu => hE w' (hw.up.trans hu fun q hq (hs : q = (ρ G).blk) => by
      rcases hmu with h | h
      · rw [hs]; exact h
      · omega)
    rw [hP]
    have hargs : (List.map (SV.den ρ) [.c (.p G 0)]).toArray = #[.pointer (some ⟨(ρ G).blk, 0, none⟩)] := by
      simp only [List.map_cons, List.map_nil, SV.den, SC.den, k2]
    rw [hargs]
    refine (next_w hok k1 hup).mono ?_
    rintro z w' ⟨hU, hb, v, rfl, r1, r2, rfl, m1, m2, m3⟩
    rw [hx] at *
    refine ⟨r1, r2, m1.made (fun ρ => ec_den ρ _), m2.made (fun ρ => st_den ρ _), m3, fun ρ' _ e1 e2 => ?_, hU, ?_⟩
    · rw [← e1, ← e2]; rfl
    · rw [k3, k4]; simpa [Blk, dens_cn] using hb
theorem Run_next {C : Cx} {nt : Nat} {sl : List (Nat × SV)} {en : List EN} {k : List KI} {dst : Option Nat} {ty : TypeId} {pos : String} {af : Array Edge} {all r : List Oper} {args : Array Operand} {tys : Array TypeId} {G : Nat} {c : Cn} {x : Cn × Gq × Bool} (hok : CnOk c) (hx : cnNext c = x) (hP : C.P = Tryz.prog) (hE : ∀ w, Upd C.S C.w0 w → EnvT w) (hG : zD en G = some (cnE c true)) (hGn : G < zG en) (hn0 : C.n0 ≤ zG en)
    (hxs : qw sl args.toList = some [.c (.p G 0)]) (hd : ∀ d, dst = some d → d < nt) (hK : Run C (.ops all r :: k) nt (jN dst (.t [.g (gqZ x.2.1 (zG en)), .c (.b x.2.2)]) sl) (zF (zF (zE en G (cnE x.1 true)) (cmG x.2.1)) (flG x.2.1))) :
    Run C (.ops all (⟨dst, .call ⟨.value (.func 13), args, tys⟩, ty, pos, af, none⟩ :: r) :: k) nt sl en := by
  have hl0 : zG (zE en G (cnE x.1 true)) = zG en := len_set
  have hl1 : zG (zF (zE en G (cnE x.1 true)) (cmG x.2.1)) = zG en + 1 := by rw [len_snoc, hl0]
  have hl : zG (zF (zF (zE en G (cnE x.1 true)) (cmG x.2.1)) (flG x.2.1)) = zG en + 1 + 1 := by rw [len_snoc, hl1]
  refine Run_hcall hxs _ _ (next_h (N := zG en) hok hx hP hE hG hGn (fun q => by rw [hl]; omega) hn0 ?_ ?_ (fun q h1 h2 => ?_)) (by rw [hl]; omega) hd hK
  · rw [nth_snoc_ne (by rw [hl1]; omega)]
    have := nth_snoc (en := zE en G (cnE x.1 true)) (e := cmG x.2.1)
    rwa [hl0] at this
  · have := nth_snoc (en := zF (zE en G (cnE x.1 true)) (cmG x.2.1)) (e := flG x.2.1)
    rwa [hl1] at this
  · rw [nth_snoc_ne (by rw [hl1]; exact h2), nth_snoc_ne (by rw [hl0]; exact h1)]
def cA : Cn := ⟨[103, 101, 116, 32, 97], [], 0, false⟩
def cB : Cn := ⟨[103, 101, 116, 32, 97, 10, 109, 110, 10], [], 0, false⟩
def cC1 : Cn := ⟨[109, 110, 10], [], 0, false⟩
def gA : Gq := gqT (tParse [103, 101, 116, 32, 97, 10]).1
def gB : Gq := gqM (mParse [109, 110, 10]).1
theorem sn1 : cnFeed Cn.zero [103, 101, 116, 32, 97] = (cA, 5) := by kernel_rfl
theorem sn2 : cnNext cA = (cA, Gq.zero, false) := by kernel_rfl
theorem sn3 : cnFeed cA [10, 109, 110, 10] = (cB, 4) := by kernel_rfl
theorem sn4 : cnNext cB = (cC1, gA, true) := by kernel_rfl
theorem sn5 : cnNext cC1 = (Cn.zero, gB, true) := by kernel_rfl
theorem sn6 : cnPut Cn.zero [97, 98, 99] = ⟨[], [97, 98, 99], 0, false⟩ := rfl
theorem sn7 : cnWrite ⟨[], [97, 98, 99], 0, false⟩ 2 = (⟨[], [99], 0, false⟩, [97, 98]) := by kernel_rfl
theorem sn8 : cnWrite ⟨[], [99], 0, false⟩ 9 = (Cn.zero, [99]) := by kernel_rfl
theorem sn9 : gA.kind = 1 ∧ gB.kind = 7 := by decide +kernel
theorem shownC_w (w : World) (hE0 : EnvT w) : Calls Tryz.prog 9 #[] w fun e w' => e = .returned (.bool true) ∧ Below w.heap.size w w' := by
  refine calls_of_Run Tryz.func9 rfl kp9 (S := Non) (ρ := fun _ => reOf 0) (en := []) [] Tryz.ntmps9 (At.nil _ _ _) (by simp) (by simp) ?_
  intro C hC hP hk
  have hE : ∀ w', Upd C.S C.w0 w' → EnvT w' := fun w' hu => by rw [hC] at hu; exact hE0.below hu.to_below
  have hctr : CtrOk C (fun _ _ _ => none) := by intro f en xs p v h; cases h
  have hn0 : C.n0 = 0 := by rw [hC]; rfl
  have g7 := sn9.1
  have g8 := sn9.2
  have okA : CnOk cA := ⟨by decide, by decide, by decide, by decide⟩
  have okB : CnOk cB := ⟨by decide, by decide, by decide, by decide⟩
  have okC : CnOk cC1 := ⟨by decide, by decide, by decide, by decide⟩
  (refine VT_ok hctr (rs := res9) true 300 _ _ _ ?_; simp (maxSteps := 1000000) only [VT, jf, jg, jZ, ja, jd, je, VC, qA, qB, qC, qD, qE, qF, qG, qH, qI, qJ, qK, qL, qM, qN, qO, qP, qQ, qR, qS, qT, qU, qV, qW, qX, qY, qZ, qe, qf, qg, qh, qj, qk, ql, qm, qn, qo, qp, qq, q0t, qu, qv, ev, qw, qy, qz, zA, zB, zC, zD, zE, zF, zG, zH, zI, zJ, TE.sv, zK, zL, zM, ↓reduceIte, reduceCtorEq, Value.oneCell', Nat.reduceEqDiff, Nat.reduceAdd, Nat.reduceLT, Nat.reduceBEq, Nat.reduceSub, Nat.reduceLeDiff, zP, zQ, zR, zS, zT, zU, zV, zW, zX, zY, zZ, za, zb, zc, zd, ze, zf, zg, zh, zi, zj, zk, zl, zm, zn, zo, zp, zq, zr, zt, zu, zw, zx, zy, zz, cE, jA, jB, hap, killE, deadOf, rwE, cD, cO, jC, jD, jE, jF, jG, jH, jI, jJ, jK, jL, jM, jN, jO, jP, jQ, jR, jS, jT, jU, jV, jW, jX, jY, hP, hk, res9, kp9, gqZ, gqS, Int.toNat_natCast, Int.le_refl, beq_self_eq_true, bne_self_eq_false])
  refine Run_new hP (by rw [hn0]; exact Nat.zero_le _) rfl (by simp) ?_
  (refine VT_ok hctr (rs := res9) true 300 _ _ _ ?_; simp (maxSteps := 1000000) only [VT, jf, jg, jZ, ja, jd, je, VC, qA, qB, qC, qD, qE, qF, qG, qH, qI, qJ, qK, qL, qM, qN, qO, qP, qQ, qR, qS, qT, qU, qV, qW, qX, qY, qZ, qe, qf, qg, qh, qj, qk, ql, qm, qn, qo, qp, qq, q0t, qu, qv, ev, qw, qy, qz, zA, zB, zC, zD, zE, zF, zG, zH, zI, zJ, TE.sv, zK, zL, zM, ↓reduceIte, reduceCtorEq, Value.oneCell', Nat.reduceEqDiff, Nat.reduceAdd, Nat.reduceLT, Nat.reduceBEq, Nat.reduceSub, Nat.reduceLeDiff, zP, zQ, zR, zS, zT, zU, zV, zW, zX, zY, zZ, za, zb, zc, zd, ze, zf, zg, zh, zi, zj, zk, zl, zm, zn, zo, zp, zq, zr, zt, zu, zw, zx, zy, zz, cE, jA, jB, hap, killE, deadOf, rwE, cD, cO, jC, jD, jE, jF, jG, jH, jI, jJ, jK, jL, jM, jN, jO, jP, jQ, jR, jS, jT, jU, jV, jW, jX, jY, hP, hk, res9, kp9, gqZ, gqS, Int.toNat_natCast, Int.le_refl, beq_self_eq_true, bne_self_eq_false])
  refine ⟨⟨_, Tryz.underlying23⟩, ?_⟩
  refine Run_cn (N := 0) (c := Cn.zero) cA (ys := [.c (.s [103, 101, 116, 32, 97])]) (.c (.i .i64 5)) rfl hP rfl (by simp [zG]) (fun args w => Tryz.call11 args w) (fun pr => by simp [SV.wf, SC.wf]) (fun ρ w g h => by have := feed_w CnOk.zero [103, 101, 116, 32, 97] (by simp) h; rw [sn1] at this; exact this) rfl (by simp) ?_
  (refine VT_ok hctr (rs := res9) true 300 _ _ _ ?_; simp (maxSteps := 1000000) only [VT, jf, jg, jZ, ja, jd, je, VC, qA, qB, qC, qD, qE, qF, qG, qH, qI, qJ, qK, qL, qM, qN, qO, qP, qQ, qR, qS, qT, qU, qV, qW, qX, qY, qZ, qe, qf, qg, qh, qj, qk, ql, qm, qn, qo, qp, qq, q0t, qu, qv, ev, qw, qy, qz, zA, zB, zC, zD, zE, zF, zG, zH, zI, zJ, TE.sv, zK, zL, zM, ↓reduceIte, reduceCtorEq, Value.oneCell', Nat.reduceEqDiff, Nat.reduceAdd, Nat.reduceLT, Nat.reduceBEq, Nat.reduceSub, Nat.reduceLeDiff, zP, zQ, zR, zS, zT, zU, zV, zW, zX, zY, zZ, za, zb, zc, zd, ze, zf, zg, zh, zi, zj, zk, zl, zm, zn, zo, zp, zq, zr, zt, zu, zw, zx, zy, zz, cE, jA, jB, hap, killE, deadOf, rwE, cD, cO, jC, jD, jE, jF, jG, jH, jI, jJ, jK, jL, jM, jN, jO, jP, jQ, jR, jS, jT, jU, jV, jW, jX, jY, hP, hk, res9, kp9, gqZ, gqS, Int.toNat_natCast, Int.le_refl, beq_self_eq_true, bne_self_eq_false])
  refine Run_next (G := 0) okA sn2 hP hE rfl (by simp [zG]) (by rw [hn0]; exact Nat.zero_le _) rfl (by simp) ?_
  (refine VT_ok hctr (rs := res9) true 300 _ _ _ ?_; simp (maxSteps := 1000000) only [VT, jf, jg, jZ, ja, jd, je, VC, qA, qB, qC, qD, qE, qF, qG, qH, qI, qJ, qK, qL, qM, qN, qO, qP, qQ, qR, qS, qT, qU, qV, qW, qX, qY, qZ, qe, qf, qg, qh, qj, qk, ql, qm, qn, qo, qp, qq, q0t, qu, qv, ev, qw, qy, qz, zA, zB, zC, zD, zE, zF, zG, zH, zI, zJ, TE.sv, zK, zL, zM, ↓reduceIte, reduceCtorEq, Value.oneCell', Nat.reduceEqDiff, Nat.reduceAdd, Nat.reduceLT, Nat.reduceBEq, Nat.reduceSub, Nat.reduceLeDiff, zP, zQ, zR, zS, zT, zU, zV, zW, zX, zY, zZ, za, zb, zc, zd, ze, zf, zg, zh, zi, zj, zk, zl, zm, zn, zo, zp, zq, zr, zt, zu, zw, zx, zy, zz, cE, jA, jB, hap, killE, deadOf, rwE, cD, cO, jC, jD, jE, jF, jG, jH, jI, jJ, jK, jL, jM, jN, jO, jP, jQ, jR, jS, jT, jU, jV, jW, jX, jY, hP, hk, res9, kp9, gqZ, gqS, Int.toNat_natCast, Int.le_refl, beq_self_eq_true, bne_self_eq_false, Gq.zero])
  refine Run_cn (N := 0) (c := cA) cB (ys := [.c (.s [10, 109, 110, 10])]) (.c (.i .i64 4)) rfl hP rfl (by simp [zG]) (fun args w => Tryz.call11 args w) (fun pr => by simp [SV.wf, SC.wf]) (fun ρ w g h => by have := feed_w okA [10, 109, 110, 10] (by simp) h; rw [sn3] at this; exact this) rfl (by simp) ?_
  (refine VT_ok hctr (rs := res9) true 300 _ _ _ ?_; simp (maxSteps := 1000000) only [VT, jf, jg, jZ, ja, jd, je, VC, qA, qB, qC, qD, qE, qF, qG, qH, qI, qJ, qK, qL, qM, qN, qO, qP, qQ, qR, qS, qT, qU, qV, qW, qX, qY, qZ, qe, qf, qg, qh, qj, qk, ql, qm, qn, qo, qp, qq, q0t, qu, qv, ev, qw, qy, qz, zA, zB, zC, zD, zE, zF, zG, zH, zI, zJ, TE.sv, zK, zL, zM, ↓reduceIte, reduceCtorEq, Value.oneCell', Nat.reduceEqDiff, Nat.reduceAdd, Nat.reduceLT, Nat.reduceBEq, Nat.reduceSub, Nat.reduceLeDiff, zP, zQ, zR, zS, zT, zU, zV, zW, zX, zY, zZ, za, zb, zc, zd, ze, zf, zg, zh, zi, zj, zk, zl, zm, zn, zo, zp, zq, zr, zt, zu, zw, zx, zy, zz, cE, jA, jB, hap, killE, deadOf, rwE, cD, cO, jC, jD, jE, jF, jG, jH, jI, jJ, jK, jL, jM, jN, jO, jP, jQ, jR, jS, jT, jU, jV, jW, jX, jY, hP, hk, res9, kp9, gqZ, gqS, Int.toNat_natCast, Int.le_refl, beq_self_eq_true, bne_self_eq_false])
  refine Run_next (G := 0) okB sn4 hP hE rfl (by simp [zG]) (by rw [hn0]; exact Nat.zero_le _) rfl (by simp) ?_
  (refine VT_ok hctr (rs := res9) true 300 _ _ _ ?_; simp (maxSteps := 1000000) only [VT, jf, jg, jZ, ja, jd, je, VC, qA, qB, qC, qD, qE, qF, qG, qH, qI, qJ, qK, qL, qM, qN, qO, qP, qQ, qR, qS, qT, qU, qV, qW, qX, qY, qZ, qe, qf, qg, qh, qj, qk, ql, qm, qn, qo, qp, qq, q0t, qu, qv, ev, qw, qy, qz, zA, zB, zC, zD, zE, zF, zG, zH, zI, zJ, TE.sv, zK, zL, zM, ↓reduceIte, reduceCtorEq, Value.oneCell', Nat.reduceEqDiff, Nat.reduceAdd, Nat.reduceLT, Nat.reduceBEq, Nat.reduceSub, Nat.reduceLeDiff, zP, zQ, zR, zS, zT, zU, zV, zW, zX, zY, zZ, za, zb, zc, zd, ze, zf, zg, zh, zi, zj, zk, zl, zm, zn, zo, zp, zq, zr, zt, zu, zw, zx, zy, zz, cE, jA, jB, hap, killE, deadOf, rwE, cD, cO, jC, jD, jE, jF, jG, jH, jI, jJ, jK, jL, jM, jN, jO, jP, jQ, jR, jS, jT, jU, jV, jW, jX, jY, hP, hk, res9, kp9, gqZ, gqS, Int.toNat_natCast, Int.le_refl, beq_self_eq_true, bne_self_eq_false])
  refine Run_next (G := 0) okC sn5 hP hE rfl (by simp [zG]) (by rw [hn0]; exact Nat.zero_le _) rfl (by simp) ?_
  (refine VT_ok hctr (rs := res9) true 300 _ _ _ ?_; simp (maxSteps := 1000000) only [VT, jf, jg, jZ, ja, jd, je, VC, qA, qB, qC, qD, qE, qF, qG, qH, qI, qJ, qK, qL, qM, qN, qO, qP, qQ, qR, qS, qT, qU, qV, qW, qX, qY, qZ, qe, qf, qg, qh, qj, qk, ql, qm, qn, qo, qp, qq, q0t, qu, qv, ev, qw, qy, qz, zA, zB, zC, zD, zE, zF, zG, zH, zI, zJ, TE.sv, zK, zL, zM, ↓reduceIte, reduceCtorEq, Value.oneCell', Nat.reduceEqDiff, Nat.reduceAdd, Nat.reduceLT, Nat.reduceBEq, Nat.reduceSub, Nat.reduceLeDiff, zP, zQ, zR, zS, zT, zU, zV, zW, zX, zY, zZ, za, zb, zc, zd, ze, zf, zg, zh, zi, zj, zk, zl, zm, zn, zo, zp, zq, zr, zt, zu, zw, zx, zy, zz, cE, jA, jB, hap, killE, deadOf, rwE, cD, cO, jC, jD, jE, jF, jG, jH, jI, jJ, jK, jL, jM, jN, jO, jP, jQ, jR, jS, jT, jU, jV, jW, jX, jY, hP, hk, res9, kp9, gqZ, gqS, Int.toNat_natCast, Int.le_refl, beq_self_eq_true, bne_self_eq_false])
  refine Run_cn (N := 0) (c := Cn.zero) ⟨[], [97, 98, 99], 0, false⟩ (ys := [.c (.s [97, 98, 99])]) (.t []) rfl hP rfl (by simp [zG]) (fun args w => Tryz.call14 args w) (fun pr => by simp [SV.wf, SC.wf]) (fun ρ w g h => by have := put_w (c := Cn.zero) [97, 98, 99] (by decide) h; rw [sn6] at this; exact this) rfl (by simp) ?_
  (refine VT_ok hctr (rs := res9) true 400 _ _ _ ?_; simp (maxSteps := 1000000) only [VT, jf, jg, jZ, ja, jd, je, VC, qA, qB, qC, qD, qE, qF, qG, qH, qI, qJ, qK, qL, qM, qN, qO, qP, qQ, qR, qS, qT, qU, qV, qW, qX, qY, qZ, qe, qf, qg, qh, qj, qk, ql, qm, qn, qo, qp, qq, q0t, qu, qv, ev, qw, qy, qz, zA, zB, zC, zD, zE, zF, zG, zH, zI, zJ, TE.sv, zK, zL, zM, ↓reduceIte, reduceCtorEq, Value.oneCell', Nat.reduceEqDiff, Nat.reduceAdd, Nat.reduceLT, Nat.reduceBEq, Nat.reduceSub, Nat.reduceLeDiff, zP, zQ, zR, zS, zT, zU, zV, zW, zX, zY, zZ, za, zb, zc, zd, ze, zf, zg, zh, zi, zj, zk, zl, zm, zn, zo, zp, zq, zr, zt, zu, zw, zx, zy, zz, cE, jA, jB, hap, killE, deadOf, rwE, cD, cO, jC, jD, jE, jF, jG, jH, jI, jJ, jK, jL, jM, jN, jO, jP, jQ, jR, jS, jT, jU, jV, jW, jX, jY, hP, hk, res9, kp9, gqZ, gqS, Int.toNat_natCast, Int.le_refl, beq_self_eq_true, bne_self_eq_false, g7, g8, Bool.not_false, lb1, lb2, lb3, lb4, u8b, UInt8.reduceToNat])
  refine Run_cn (N := 0) (c := ⟨[], [97, 98, 99], 0, false⟩) ⟨[], [99], 0, false⟩ (ys := [.c (.i .i64 2)]) (.c (.s [97, 98])) rfl hP rfl (by simp [zG]) (fun args w => Tryz.call15 args w) (fun pr => by simp [SV.wf, SC.wf]) (fun ρ w g h => by have := write_w (c := ⟨[], [97, 98, 99], 0, false⟩) 2 (by decide) h; rw [sn7] at this; exact this) rfl (by simp) ?_
  (refine VT_ok hctr (rs := res9) true 400 _ _ _ ?_; simp (maxSteps := 1000000) only [VT, jf, jg, jZ, ja, jd, je, VC, qA, qB, qC, qD, qE, qF, qG, qH, qI, qJ, qK, qL, qM, qN, qO, qP, qQ, qR, qS, qT, qU, qV, qW, qX, qY, qZ, qe, qf, qg, qh, qj, qk, ql, qm, qn, qo, qp, qq, q0t, qu, qv, ev, qw, qy, qz, zA, zB, zC, zD, zE, zF, zG, zH, zI, zJ, TE.sv, zK, zL, zM, ↓reduceIte, reduceCtorEq, Value.oneCell', Nat.reduceEqDiff, Nat.reduceAdd, Nat.reduceLT, Nat.reduceBEq, Nat.reduceSub, Nat.reduceLeDiff, zP, zQ, zR, zS, zT, zU, zV, zW, zX, zY, zZ, za, zb, zc, zd, ze, zf, zg, zh, zi, zj, zk, zl, zm, zn, zo, zp, zq, zr, zt, zu, zw, zx, zy, zz, cE, jA, jB, hap, killE, deadOf, rwE, cD, cO, jC, jD, jE, jF, jG, jH, jI, jJ, jK, jL, jM, jN, jO, jP, jQ, jR, jS, jT, jU, jV, jW, jX, jY, hP, hk, res9, kp9, gqZ, gqS, Int.toNat_natCast, Int.le_refl, beq_self_eq_true, bne_self_eq_false, g7, g8, Bool.not_false, lb1, lb2, lb3, lb4, u8b, UInt8.reduceToNat])
  refine Run_cn (N := 0) (c := ⟨[], [99], 0, false⟩) Cn.zero (ys := [.c (.i .i64 9)]) (.c (.s [99])) rfl hP rfl (by simp [zG]) (fun args w => Tryz.call15 args w) (fun pr => by simp [SV.wf, SC.wf]) (fun ρ w g h => by have := write_w (c := ⟨[], [99], 0, false⟩) 9 (by decide) h; rw [sn8] at this; exact this) rfl (by simp) ?_
  (refine VT_ok hctr (rs := res9) true 400 _ _ _ ?_; simp (maxSteps := 1000000) only [VT, jf, jg, jZ, ja, jd, je, VC, qA, qB, qC, qD, qE, qF, qG, qH, qI, qJ, qK, qL, qM, qN, qO, qP, qQ, qR, qS, qT, qU, qV, qW, qX, qY, qZ, qe, qf, qg, qh, qj, qk, ql, qm, qn, qo, qp, qq, q0t, qu, qv, ev, qw, qy, qz, zA, zB, zC, zD, zE, zF, zG, zH, zI, zJ, TE.sv, zK, zL, zM, ↓reduceIte, reduceCtorEq, Value.oneCell', Nat.reduceEqDiff, Nat.reduceAdd, Nat.reduceLT, Nat.reduceBEq, Nat.reduceSub, Nat.reduceLeDiff, zP, zQ, zR, zS, zT, zU, zV, zW, zX, zY, zZ, za, zb, zc, zd, ze, zf, zg, zh, zi, zj, zk, zl, zm, zn, zo, zp, zq, zr, zt, zu, zw, zx, zy, zz, cE, jA, jB, hap, killE, deadOf, rwE, cD, cO, jC, jD, jE, jF, jG, jH, jI, jJ, jK, jL, jM, jN, jO, jP, jQ, jR, jS, jT, jU, jV, jW, jX, jY, hP, hk, res9, kp9, gqZ, gqS, Int.toNat_natCast, Int.le_refl, beq_self_eq_true, bne_self_eq_false, g7, g8, Bool.not_false, lb1, lb2, lb3, lb4, u8b, UInt8.reduceToNat])
  refine Run_cn (N := 0) (c := Cn.zero) Cn.zero (ys := []) (.c (.b false)) rfl hP rfl (by simp [zG]) (fun args w => Tryz.call16 args w) (fun pr => by simp [SV.wf, SC.wf]) (fun ρ w g h => ends_w h) rfl (by simp) ?_
  (refine VT_ok hctr (rs := res9) true 400 _ _ _ ?_; simp (maxSteps := 1000000) only [VT, jf, jg, jZ, ja, jd, je, VC, qA, qB, qC, qD, qE, qF, qG, qH, qI, qJ, qK, qL, qM, qN, qO, qP, qQ, qR, qS, qT, qU, qV, qW, qX, qY, qZ, qe, qf, qg, qh, qj, qk, ql, qm, qn, qo, qp, qq, q0t, qu, qv, ev, qw, qy, qz, zA, zB, zC, zD, zE, zF, zG, zH, zI, zJ, TE.sv, zK, zL, zM, ↓reduceIte, reduceCtorEq, Value.oneCell', Nat.reduceEqDiff, Nat.reduceAdd, Nat.reduceLT, Nat.reduceBEq, Nat.reduceSub, Nat.reduceLeDiff, zP, zQ, zR, zS, zT, zU, zV, zW, zX, zY, zZ, za, zb, zc, zd, ze, zf, zg, zh, zi, zj, zk, zl, zm, zn, zo, zp, zq, zr, zt, zu, zw, zx, zy, zz, cE, jA, jB, hap, killE, deadOf, rwE, cD, cO, jC, jD, jE, jF, jG, jH, jI, jJ, jK, jL, jM, jN, jO, jP, jQ, jR, jS, jT, jU, jV, jW, jX, jY, hP, hk, res9, kp9, gqZ, gqS, Int.toNat_natCast, Int.le_refl, beq_self_eq_true, bne_self_eq_false, g7, g8, Bool.not_false, lb1, lb2, lb3, lb4, u8b, UInt8.reduceToNat])
  exact Fin_ro (v := .c (.b true)) hC hres9 rfl trivial
end Go.Proofs.YtehfcboiimdkbaaGreatDoor
