/- TextGets, walked: A. -/
import Derived.Test.YtlbbldcfkalhlaaGreatDoorCTgetsW
namespace Go.Proofs.YtlbbldcfkalhlaaGreatDoor
set_option linter.unusedSimpArgs false
set_option linter.unusedVariables false
set_option linter.unusedSimpArgs false
set_option linter.unusedVariables false
set_option maxHeartbeats 8000000
open Go.RowKit
set_option maxRecDepth 100000

theorem gets_f {w : World} {a a2 : Option Addr} {n0' c0 n2 c2 : Nat} {xs : List It} {B : Nat → Bool} (hraw : RawIt w a n0' xs) (hit : ∀ x ∈ xs, ItB x ∧ x.key.length ≤ 9223372036854775807) (hc : n0' ≤ c0) (h63 : n0' ≤ 9223372036854775807) (hB : RawB w a2 n2 B) (h2 : n2 ≤ 9223372036854775807) (hE0 : EnvT w) :
    Calls Tryz.prog 8 #[.slice a n0' c0, .bool false, .slice a2 n2 c2] w fun e w' => e = .returned (.bool true) ∧ Below w.heap.size w w' := by
  refine calls_of_Run Tryz.func8 rfl kp8 (S := Non) (ρ := fun _ => reOf 0) (en := []) [.c (.v (.slice a n0' c0)), .c (.b false), .c (.v (.slice a2 n2 c2))] Tryz.ntmps8 (At.nil _ _ _) (by simp [SV.wf, SC.wf]) (by simp) ?_
  intro C hC hP hk
  have hE : ∀ w', Upd C.S C.w0 w' → EnvT w' := fun w' hu => by rw [hC] at hu; exact hE0.below hu.to_below
  have hctr := lwC_ok hP hE
  have hn0 : C.n0 = 0 := by rw [hC]; rfl
  have fin : ∀ en, Fin C res8 (.c (.b true)) en := fun en => Fin_ro (v := .c (.b true)) hC hres8 rfl trivial
  (refine VT_ok hctr (rs := res8) true 16 _ _ _ ?_; simp (maxSteps := 1000000) only [VT, jf, jg, jZ, ja, jd, je, VC, qA, qB, qC, qD, qE, qF, qG, qH, qI, qJ, qK, qL, qM, qN, qO, qP, qQ, qR, qS, qT, qU, qV, qW, qX, qY, qZ, qe, qf, qg, qh, qj, qk, ql, qm, qn, qo, qp, qq, qt, qu, qv, ev, qw, qy, qz, zA, zB, zC, zD, zE, zF, zG, zH, zI, zJ, TE.sv, zK, zL, zM, ↓reduceIte, reduceCtorEq, Value.oneCell', Nat.reduceEqDiff, Nat.reduceAdd, Nat.reduceLT, Nat.reduceBEq, Nat.reduceSub, Nat.reduceLeDiff, zP, zQ, zR, zS, zT, zU, zV, zW, zX, zY, zZ, za, zb, zc, zd, ze, zf, zg, zh, zi, zj, zk, zl, zm, zn, zo, zp, zq, zr, zt, zu, zw, zx, zy, zz, cE, jA, jB, hap, killE, deadOf, rwE, cD, cO, jC, jD, jE, jF, jG, jH, jI, jJ, jK, jL, jM, jN, jO, jP, jQ, jR, jS, jT, jU, jV, jW, jX, jY, hP, hk, res8, kp8, lwC, rowKeyB, rowText, cond_true, cond_false])
  refine Run_join (κ := { p : Option Addr × Nat × List It // RawIt w p.1 p.2.1 p.2.2 ∧ p.2.1 ≤ 50 ∧ ∀ x ∈ p.2.2, ItB x ∧ x.key.length ≤ 9223372036854775807 }) (fun p => [(7, .c (.b true)), (6, .c (.b false)), (0, .c (.v (.slice p.1.1 p.1.2.1 c0))), (1, .c (.b false)), (2, .c (.v (.slice a2 n2 c2)))]) (fun _ => []) ?_ (fun hJ => ?_)
  rotate_left
  · by_cases hn : n0' ≤ 50
    · have g50 : decide (50 < ((n0' : Nat) : Int)) = false := decide_eq_false (by omega)
      rw [g50]
      (refine VT_ok hctr (rs := res8) true 2 _ _ _ ?_; simp (maxSteps := 1000000) only [VT, jf, jg, jZ, ja, jd, je, VC, qA, qB, qC, qD, qE, qF, qG, qH, qI, qJ, qK, qL, qM, qN, qO, qP, qQ, qR, qS, qT, qU, qV, qW, qX, qY, qZ, qe, qf, qg, qh, qj, qk, ql, qm, qn, qo, qp, qq, qt, qu, qv, ev, qw, qy, qz, zA, zB, zC, zD, zE, zF, zG, zH, zI, zJ, TE.sv, zK, zL, zM, ↓reduceIte, reduceCtorEq, Value.oneCell', Nat.reduceEqDiff, Nat.reduceAdd, Nat.reduceLT, Nat.reduceBEq, Nat.reduceSub, Nat.reduceLeDiff, zP, zQ, zR, zS, zT, zU, zV, zW, zX, zY, zZ, za, zb, zc, zd, ze, zf, zg, zh, zi, zj, zk, zl, zm, zn, zo, zp, zq, zr, zt, zu, zw, zx, zy, zz, cE, jA, jB, hap, killE, deadOf, rwE, cD, cO, jC, jD, jE, jF, jG, jH, jI, jJ, jK, jL, jM, jN, jO, jP, jQ, jR, jS, jT, jU, jV, jW, jX, jY, hP, hk, res8, kp8, lwC, rowKeyB, rowText, cond_true, cond_false])
      exact hJ ⟨(a, n0', xs), hraw, hn, hit⟩ _ (sub_mk ⟨rfl, rfl, rfl, rfl, rfl, trivial⟩)
    · have g50 : decide (50 < ((n0' : Nat) : Int)) = true := decide_eq_true (by omega)
      have q1 : (50 : Int) ≤ ((c0 : Nat) : Int) := by omega
      have q0 : (0 : Int) ≤ 50 := by decide
      have q3 : (c0 = 0) = False := by simp; omega
      obtain ⟨xz, hxz⟩ : ∃ x, xs[0]? = some x := ⟨_, List.getElem?_eq_getElem (by have := hraw.1; omega)⟩
      obtain ⟨bA, oA, hA, _⟩ := hraw.2 0 xz hxz
      subst hA
      rw [g50]
      (refine VT_ok hctr (rs := res8) true 6 _ _ _ ?_; simp (maxSteps := 1000000) only [VT, jf, jg, jZ, ja, jd, je, VC, qA, qB, qC, qD, qE, qF, qG, qH, qI, qJ, qK, qL, qM, qN, qO, qP, qQ, qR, qS, qT, qU, qV, qW, qX, qY, qZ, qe, qf, qg, qh, qj, qk, ql, qm, qn, qo, qp, qq, qt, qu, qv, ev, qw, qy, qz, zA, zB, zC, zD, zE, zF, zG, zH, zI, zJ, TE.sv, zK, zL, zM, ↓reduceIte, reduceCtorEq, Value.oneCell', Nat.reduceEqDiff, Nat.reduceAdd, Nat.reduceLT, Nat.reduceBEq, Nat.reduceSub, Nat.reduceLeDiff, zP, zQ, zR, zS, zT, zU, zV, zW, zX, zY, zZ, za, zb, zc, zd, ze, zf, zg, zh, zi, zj, zk, zl, zm, zn, zo, zp, zq, zr, zt, zu, zw, zx, zy, zz, cE, jA, jB, hap, killE, deadOf, rwE, cD, cO, jC, jD, jE, jF, jG, jH, jI, jJ, jK, jL, jM, jN, jO, jP, jQ, jR, jS, jT, jU, jV, jW, jX, jY, hP, hk, res8, kp8, lwC, rowKeyB, rowText, cond_true, cond_false, q0, q1, q3, Int.toNat_zero, Nat.zero_mul, Nat.add_zero, Nat.sub_zero, Int.reduceToNat, Int.le_refl])
      refine hJ ⟨(some ⟨bA, oA, none⟩, 50, xs.take 50), ⟨by show (xs.take 50).length = 50; rw [List.length_take, hraw.1]; omega, fun k x hx => ?_⟩, Nat.le_refl _, fun x hx => hit x (List.mem_of_mem_take hx)⟩ _ (sub_mk ⟨rfl, rfl, rfl, rfl, rfl, trivial⟩)
      rw [List.getElem?_take] at hx
      split at hx
      · exact hraw.2 k x hx
      · cases hx
  rintro ⟨⟨a, n, ys⟩, hraw, hn50, hit⟩
  simp only at hraw hn50 hit
  obtain ⟨c, hcc⟩ : ∃ c, c0 = c := ⟨_, rfl⟩
  rw [hcc]
  show Run C _ _ [(7, .c (.b true)), (6, .c (.b false)), (0, .c (.v (.slice a n c))), (1, .c (.b false)), (2, .c (.v (.slice a2 n2 c2)))] []
  (refine VT_ok hctr (rs := res8) true 300 _ _ _ ?_; simp (maxSteps := 1000000) only [VT, jf, jg, jZ, ja, jd, je, VC, qA, qB, qC, qD, qE, qF, qG, qH, qI, qJ, qK, qL, qM, qN, qO, qP, qQ, qR, qS, qT, qU, qV, qW, qX, qY, qZ, qe, qf, qg, qh, qj, qk, ql, qm, qn, qo, qp, qq, qt, qu, qv, ev, qw, qy, qz, zA, zB, zC, zD, zE, zF, zG, zH, zI, zJ, TE.sv, zK, zL, zM, ↓reduceIte, reduceCtorEq, Value.oneCell', Nat.reduceEqDiff, Nat.reduceAdd, Nat.reduceLT, Nat.reduceBEq, Nat.reduceSub, Nat.reduceLeDiff, zP, zQ, zR, zS, zT, zU, zV, zW, zX, zY, zZ, za, zb, zc, zd, ze, zf, zg, zh, zi, zj, zk, zl, zm, zn, zo, zp, zq, zr, zt, zu, zw, zx, zy, zz, cE, jA, jB, hap, killE, deadOf, rwE, cD, cO, jC, jD, jE, jF, jG, jH, jI, jJ, jK, jL, jM, jN, jO, jP, jQ, jR, jS, jT, jU, jV, jW, jX, jY, hP, hk, res8, kp8, lwC, rowKeyB, rowText, cond_true, cond_false])
  refine Run_nilrowG true (en' := [rqE false (.rw 1 0)]) (sl' := [(11, .c (.i .i64 ((0 : Nat) : Int))), (10, .c (.v (.slice none 0 0))), (9, .c (.v (.slice none 0 0))), (8, .c (.p 0 0)), (7, .c (.b true)), (6, .c (.b false)), (0, .c (.v (.slice a n c))), (1, .c (.b false)), (2, .c (.v (.slice a2 n2 c2)))]) (37, 0, rowP 16 0 0) rfl (fun _ => ⟨rfl, .inr ⟨rfl, rfl, rfl⟩⟩) (fun _ => by show ¬ (37 : Nat) = DEAD; decide) ?_ ?_ ?_
  · refine ⟨⟨rfl, rfl, fun ρ h => ?_, ?_⟩, trivial⟩
    · have h : (ρ 1).nl = some none := h
      simp only [rqE, dens, List.map_cons, List.map_nil, SC.den, rwOf_off h]
    · intro y hy
      simp only [rqE, List.mem_cons, List.not_mem_nil, or_false] at hy
      rcases hy with rfl | rfl | rfl | rfl | rfl | rfl | rfl | rfl | rfl | rfl | rfl <;> first | trivial | (show 1 < _; simp [zG, len_snoc, zF])
  · refine ⟨⟨⟨_, rfl, fun ρ h => rfl⟩, ?_⟩, ⟨⟨_, rfl, fun ρ h => rfl⟩, ?_⟩, ⟨⟨_, rfl, fun ρ h => rfl⟩, ?_⟩, ⟨⟨_, rfl, fun ρ h => rfl⟩, ?_⟩, ⟨⟨_, rfl, fun ρ h => rfl⟩, ?_⟩, ⟨⟨_, rfl, fun ρ h => rfl⟩, ?_⟩, ⟨⟨_, rfl, fun ρ h => rfl⟩, ?_⟩, ⟨⟨_, rfl, fun ρ h => rfl⟩, ?_⟩, ⟨⟨_, rfl, fun ρ h => rfl⟩, ?_⟩, trivial⟩
    all_goals simp [SV.wf, SC.wf, zG, rqE, rwE, len_snoc, zF]
  refine Run_nilrowG true (en' := [rqE false (.rw 1 0), rwE 37 16 0 []]) (sl' := [(11, .c (.i .i64 ((0 : Nat) : Int))), (10, .c (.v (.slice none 0 0))), (9, .c (.rw 2 0)), (8, .c (.p 0 0)), (7, .c (.b true)), (6, .c (.b false)), (0, .c (.v (.slice a n c))), (1, .c (.b false)), (2, .c (.v (.slice a2 n2 c2)))]) (49, 0, rowP 13 0 0) rfl (fun _ => ⟨rfl, .inr ⟨rfl, rfl, rfl⟩⟩) (fun _ => by show ¬ (49 : Nat) = DEAD; decide) ?_ ?_ ?_
  · refine ⟨⟨rfl, rfl, fun ρ h => rfl, ?_⟩, ⟨rfl, rfl, fun ρ h => rfl, ?_⟩, trivial⟩
    all_goals (intro y hy; simp only [rqE, rwE, List.mem_cons, List.not_mem_nil, or_false] at hy)
    rcases hy with rfl | rfl | rfl | rfl | rfl | rfl | rfl | rfl | rfl | rfl | rfl <;> first | trivial | (show 1 < _; simp [zG, len_snoc, zF])
  · refine ⟨⟨⟨_, rfl, fun ρ h => rfl⟩, ?_⟩, ⟨⟨_, rfl, fun ρ h => rfl⟩, ?_⟩, ⟨⟨_, rfl, fun ρ h => ?_⟩, ?_⟩, ⟨⟨_, rfl, fun ρ h => rfl⟩, ?_⟩, ⟨⟨_, rfl, fun ρ h => rfl⟩, ?_⟩, ⟨⟨_, rfl, fun ρ h => rfl⟩, ?_⟩, ⟨⟨_, rfl, fun ρ h => rfl⟩, ?_⟩, ⟨⟨_, rfl, fun ρ h => rfl⟩, ?_⟩, ⟨⟨_, rfl, fun ρ h => rfl⟩, ?_⟩, trivial⟩
    any_goals (have h : (ρ 2).nl = some none := h; simp only [SV.den, SC.den, rwOf_off h])
    all_goals simp [SV.wf, SC.wf, zG, rqE, rwE, len_snoc, zF]
  refine Run_nilrowG true (en' := [rqE false (.rw 1 0), rwE 37 16 0 [], rwE 49 13 0 []]) (sl' := [(11, .c (.i .i64 ((0 : Nat) : Int))), (10, .c (.rw 3 0)), (9, .c (.rw 2 0)), (8, .c (.p 0 0)), (7, .c (.b true)), (6, .c (.b false)), (0, .c (.v (.slice a n c))), (1, .c (.b false)), (2, .c (.v (.slice a2 n2 c2)))]) (47, 0, rowP 8 0 0) rfl (fun _ => ⟨rfl, .inr ⟨rfl, rfl, rfl⟩⟩) (fun _ => by show ¬ (47 : Nat) = DEAD; decide) ?_ ?_ ?_
  · refine ⟨⟨rfl, rfl, fun ρ h => rfl, ?_⟩, ⟨rfl, rfl, fun ρ h => rfl, ?_⟩, ⟨rfl, rfl, fun ρ h => rfl, ?_⟩, trivial⟩
    all_goals (intro y hy; simp only [rqE, rwE, List.mem_cons, List.not_mem_nil, or_false] at hy)
    rcases hy with rfl | rfl | rfl | rfl | rfl | rfl | rfl | rfl | rfl | rfl | rfl <;> first | trivial | (show 1 < _; simp [zG, len_snoc, zF])
  · refine ⟨⟨⟨_, rfl, fun ρ h => rfl⟩, ?_⟩, ⟨⟨_, rfl, fun ρ h => ?_⟩, ?_⟩, ⟨⟨_, rfl, fun ρ h => rfl⟩, ?_⟩, ⟨⟨_, rfl, fun ρ h => rfl⟩, ?_⟩, ⟨⟨_, rfl, fun ρ h => rfl⟩, ?_⟩, ⟨⟨_, rfl, fun ρ h => rfl⟩, ?_⟩, ⟨⟨_, rfl, fun ρ h => rfl⟩, ?_⟩, ⟨⟨_, rfl, fun ρ h => rfl⟩, ?_⟩, ⟨⟨_, rfl, fun ρ h => rfl⟩, ?_⟩, trivial⟩
    any_goals (have h : (ρ 3).nl = some none := h; simp only [SV.den, SC.den, rwOf_off h])
    all_goals simp [SV.wf, SC.wf, zG, rqE, rwE, len_snoc, zF]
  obtain ⟨M, hM⟩ : ∃ M : Nat → Bool, M = fun k => decide (k < n2) && B k := ⟨_, rfl⟩
  have hMb : ∀ k, M k = (decide (k < n2) && B k) := fun k => by rw [hM]
  clear hM
  refine Run_loopP (ι := { j : Nat // j ≤ n ∧ ∀ k, k < j → okI (ys.getD k It.zero) }) (fun j => slG a n c false a2 n2 c2 j.1 (ansF M ys j.1).length (wantF M ys j.1).length) (fun j => enG false ((ys.take j.1).map gtC) (ansF M ys j.1) (wantF M ys j.1)) (fun j => n - j.1) ⟨0, Nat.zero_le _, fun k hk => absurd hk (Nat.not_lt_zero k)⟩ (sub_mk ⟨rfl, rfl, rfl, rfl, rfl, rfl, rfl, rfl, rfl, trivial⟩) rfl ?_
  rintro ⟨j, hj, hall⟩ D dP dS dw dn dr dk ddf dPan dRet hX hJ
  have hP0 := hP; have hk0 := hk; have hctr0 := hctr
  have hP : D.P = Tryz.prog := by rw [dP]; exact hP0
  have hk : D.kp = kp8 := by rw [dk]; exact hk0
  have hctr : CtrOk D lwC := lwC_ok hP (by rw [dS, dw]; exact hE)
  show Run D _ _ (slG a n c false a2 n2 c2 j (ansF M ys j).length (wantF M ys j).length) (enG false ((ys.take j).map gtC) (ansF M ys j) (wantF M ys j))
  have hcl : ((ys.take j).map gtC).length = j := by rw [List.length_map, List.length_take, hraw.1]; omega
  obtain ⟨cs, jB⟩ : ∃ cs, (ys.take j).map gtC = cs := ⟨_, rfl⟩
  obtain ⟨az, haz⟩ : ∃ az, ansF M ys j = az := ⟨_, rfl⟩
  obtain ⟨ws, hws⟩ : ∃ ws, wantF M ys j = ws := ⟨_, rfl⟩
  have hal := ansF_len M ys j
  have hwl := wantF_le M ys j
  rw [jB] at hcl
  rw [haz] at hal
  rw [hws] at hwl
  rw [jB, haz, hws]
  by_cases hjn : j < n
  · obtain ⟨x, hx⟩ : ∃ x, ys[j]? = some x := ⟨_, List.getElem?_eq_getElem (by rw [hraw.1]; exact hjn)⟩
    have hxd : ys.getD j It.zero = x := by rw [List.getD_eq_getElem?_getD, hx]; rfl
    have c1 : decide ((j : Int) < ((n : Nat) : Int)) = true := decide_eq_true (by omega)
    have p3 : IntKind.i64.wrap ((j : Int) + 1) = ((j + 1 : Nat) : Int) := by rw [IntWalk.i64_in _ (by omega)]; rfl
    have p0 : (0 : Int) ≤ (j : Int) := by omega
    have p1 : (j : Int) < ((n : Nat) : Int) := by omega
    have dFin : ∀ en, Fin D res8 (.c (.b true)) en := fun en ρ a w' hw hn hv hd hr => dRet _ _ (fin en ρ a w' (hw.toC dS.symm dw.symm dr.symm dn.symm) (by rw [← dn]; exact hn) hv (hd.trans ddf) (fun fn h => by rw [← dP]; exact hr fn h))
    have hsN : D.S = Non := by rw [dS, hC]; rfl
    have hwN : D.w0 = w := by rw [dw, hC]; rfl
    obtain ⟨b0, oo, hab, hb0, hcell⟩ := hraw.2 j x hx
    have hr8 : D.rd b0 (oo + j * 8) 8 = some (itSx x) := rd_arg (vs := itVx x) hsN hwN hb0 hcell rfl
    have hr0 : D.rd b0 (oo + j * 8) 1 = some [.s x.key] := rd_arg (vs := [.string ⟨x.key.toArray⟩]) hsN hwN hb0 (fun q v hq => by
      have h0 : q = 0 := by have := (List.getElem?_eq_some_iff.1 hq).1; simp at this; exact this
      subst h0
      exact hcell 0 v hq) rfl
    have hr2 : D.rd b0 (oo + j * 8 + 2) 1 = some [.s x.val] := rd_arg (vs := [.string ⟨x.val.toArray⟩]) hsN hwN hb0 (fun q v hq => by
      have h0 : q = 0 := by have := (List.getElem?_eq_some_iff.1 hq).1; simp at this; exact this
      subst h0
      exact hcell 2 v hq) rfl
    rw [itSx] at hr8
    obtain ⟨ib, ikl⟩ := hit x (List.mem_of_getElem? hx)
    cases hkb : keyB x.key with
    | false =>
      subst hab
      (refine VT_ok hctr (rs := res8) true 300 _ _ _ ?_; simp (maxSteps := 1000000) only [VT, jf, jg, jZ, ja, jd, je, VC, qA, qB, qC, qD, qE, qF, qG, qH, qI, qJ, qK, qL, qM, qN, qO, qP, qQ, qR, qS, qT, qU, qV, qW, qX, qY, qZ, qe, qf, qg, qh, qj, qk, ql, qm, qn, qo, qp, qq, qt, qu, qv, ev, qw, qy, qz, zA, zB, zC, zD, zE, zF, zG, zH, zI, zJ, TE.sv, zK, zL, zM, ↓reduceIte, reduceCtorEq, Value.oneCell', Nat.reduceEqDiff, Nat.reduceAdd, Nat.reduceLT, Nat.reduceBEq, Nat.reduceSub, Nat.reduceLeDiff, zP, zQ, zR, zS, zT, zU, zV, zW, zX, zY, zZ, za, zb, zc, zd, ze, zf, zg, zh, zi, zj, zk, zl, zm, zn, zo, zp, zq, zr, zt, zu, zw, zx, zy, zz, cE, jA, jB, hap, killE, deadOf, rwE, cD, cO, jC, jD, jE, jF, jG, jH, jI, jJ, jK, jL, jM, jN, jO, jP, jQ, jR, jS, jT, jU, jV, jW, jX, jY, hP, hk, res8, kp8, slG, enG, rqE, rwE, lwC, rowKeyB, rowText, cond_true, cond_false, c1, p3, p0, p1, hr0, hr2, hkb, ikl, Int.toNat_natCast])
      exact dFin _
    | true =>
    by_cases hvl : x.val.length ≤ 65536
    case neg =>
      have v1 : decide (65536 < ((x.val.length : Nat) : Int)) = true := decide_eq_true (by omega)
      subst hab
      (refine VT_ok hctr (rs := res8) true 300 _ _ _ ?_; simp (maxSteps := 1000000) only [VT, jf, jg, jZ, ja, jd, je, VC, qA, qB, qC, qD, qE, qF, qG, qH, qI, qJ, qK, qL, qM, qN, qO, qP, qQ, qR, qS, qT, qU, qV, qW, qX, qY, qZ, qe, qf, qg, qh, qj, qk, ql, qm, qn, qo, qp, qq, qt, qu, qv, ev, qw, qy, qz, zA, zB, zC, zD, zE, zF, zG, zH, zI, zJ, TE.sv, zK, zL, zM, ↓reduceIte, reduceCtorEq, Value.oneCell', Nat.reduceEqDiff, Nat.reduceAdd, Nat.reduceLT, Nat.reduceBEq, Nat.reduceSub, Nat.reduceLeDiff, zP, zQ, zR, zS, zT, zU, zV, zW, zX, zY, zZ, za, zb, zc, zd, ze, zf, zg, zh, zi, zj, zk, zl, zm, zn, zo, zp, zq, zr, zt, zu, zw, zx, zy, zz, cE, jA, jB, hap, killE, deadOf, rwE, cD, cO, jC, jD, jE, jF, jG, jH, jI, jJ, jK, jL, jM, jN, jO, jP, jQ, jR, jS, jT, jU, jV, jW, jX, jY, hP, hk, res8, kp8, slG, enG, rqE, rwE, lwC, rowKeyB, rowText, cond_true, cond_false, c1, p3, p0, p1, hr0, hr2, hkb, ikl, v1, Int.toNat_natCast])
      exact dFin _
    have v1 : decide (65536 < ((x.val.length : Nat) : Int)) = false := decide_eq_false (by omega)
    subst hab
    (refine VT_ok hctr (rs := res8) true 300 _ _ _ ?_; simp (maxSteps := 1000000) only [VT, jf, jg, jZ, ja, jd, je, VC, qA, qB, qC, qD, qE, qF, qG, qH, qI, qJ, qK, qL, qM, qN, qO, qP, qQ, qR, qS, qT, qU, qV, qW, qX, qY, qZ, qe, qf, qg, qh, qj, qk, ql, qm, qn, qo, qp, qq, qt, qu, qv, ev, qw, qy, qz, zA, zB, zC, zD, zE, zF, zG, zH, zI, zJ, TE.sv, zK, zL, zM, ↓reduceIte, reduceCtorEq, Value.oneCell', Nat.reduceEqDiff, Nat.reduceAdd, Nat.reduceLT, Nat.reduceBEq, Nat.reduceSub, Nat.reduceLeDiff, zP, zQ, zR, zS, zT, zU, zV, zW, zX, zY, zZ, za, zb, zc, zd, ze, zf, zg, zh, zi, zj, zk, zl, zm, zn, zo, zp, zq, zr, zt, zu, zw, zx, zy, zz, cE, jA, jB, hap, killE, deadOf, rwE, cD, cO, jC, jD, jE, jF, jG, jH, jI, jJ, jK, jL, jM, jN, jO, jP, jQ, jR, jS, jT, jU, jV, jW, jX, jY, hP, hk, res8, kp8, slG, enG, rqE, rwE, lwC, rowKeyB, rowText, cond_true, cond_false, c1, p3, p0, p1, hr0, hr2, hkb, ikl, v1, Int.toNat_natCast])
    have hcb : (cs.length + 1) * 136 ≤ 140737488355328 := by omega
    have hts : (ys.take (j + 1)).map gtC = cs ++ [gtC x] := by
      rw [← jB, List.take_succ_eq_append_getElem (by rw [hraw.1]; exact hjn), List.map_append, (List.getElem?_eq_some_iff.1 hx).2]; rfl
    have hall' : ∀ k, k < j + 1 → okI (ys.getD k It.zero) := fun k hk => by
      rcases Nat.lt_or_ge k j with h | h
      · exact hall k h
      · obtain rfl : k = j := by omega
        rw [hxd]; exact ⟨hkb, hvl⟩
    rcases (show (decide (j < n2) = false) ∨ (decide (j < n2) = true ∧ B j = false) ∨ (decide (j < n2) = true ∧ B j = true) by cases decide (j < n2) <;> cases B j <;> simp) with g1 | ⟨g1, g2⟩ | ⟨g1, g2⟩
    · have hm : M j = false := by rw [hMb, g1]; rfl
      have d1 : decide ((j : Int) < ((n2 : Nat) : Int)) = false := by rw [← g1]; exact decide_eq_decide.2 (by omega)
      (refine Run_drawE hctr (by rw [hP]; rfl) rs8_12 [hap (some 1) 37 16 (cs.length + 1) (flatG rcS cs ++ rcS (gtC x))] (ensure_type_of% (Cmp.of (by simp (maxSteps := 1000000) only [VC, qA, qB, qC, qD, qE, qF, qG, qH, qI, qJ, qK, qL, qM, qN, qO, qP, qQ, qR, qS, qT, qU, qV, qW, qX, qY, qZ, qe, qf, qg, qh, qj, qk, ql, qm, qn, qo, qp, qq, qt, qu, qv, ev, qw, qy, qz, zA, zB, zC, zD, zE, zF, zG, zH, zI, zJ, TE.sv, zK, zL, zM, ↓reduceIte, reduceCtorEq, Value.oneCell', Nat.reduceEqDiff, Nat.reduceAdd, Nat.reduceLT, Nat.reduceBEq, Nat.reduceSub, Nat.reduceLeDiff, zP, zQ, zR, zS, zT, zU, zV, zW, zX, zY, zZ, za, zb, zc, zd, ze, zf, zg, zh, zi, zj, zk, zl, zm, zn, zo, zp, zq, zr, zt, zu, zw, zx, zy, zz, cE, jA, jB, hap, killE, deadOf, rwE, cD, cO, jC, jD, jE, jF, jG, jH, jI, jJ, jK, jL, jM, jN, jO, jP, jQ, jR, jS, jT, jU, jV, jW, jX, jY, hP, lwC, rowKeyB, rowText, cond_true, cond_false, c1, p3, p0, p1, hr0, hr2, hr8, hkb, ikl, v1, d1, Int.toNat_natCast, Nat.reduceMul, hap, killE, deadOf, rwE, rcS, gtC, Cd.zero]; rfl)) "" Cmp.mk) (by kernel_rfl) (by kernel_rfl) (by first | exact lenB_one _ | kernel_rfl) (by kernel_rfl) (by rfl) (by rfl) (by first | exact firstN_self _ | rfl) (by rfl) ?_ ?_; rotate_left; refine VT_ok hctr (rs := res8) true 300 _ _ _ ?_; simp (maxSteps := 1000000) only [VT, jf, jg, jZ, ja, jd, je, VC, qA, qB, qC, qD, qE, qF, qG, qH, qI, qJ, qK, qL, qM, qN, qO, qP, qQ, qR, qS, qT, qU, qV, qW, qX, qY, qZ, qe, qf, qg, qh, qj, qk, ql, qm, qn, qo, qp, qq, qt, qu, qv, ev, qw, qy, qz, zA, zB, zC, zD, zE, zF, zG, zH, zI, zJ, TE.sv, zK, zL, zM, ↓reduceIte, reduceCtorEq, Value.oneCell', Nat.reduceEqDiff, Nat.reduceAdd, Nat.reduceLT, Nat.reduceBEq, Nat.reduceSub, Nat.reduceLeDiff, zP, zQ, zR, zS, zT, zU, zV, zW, zX, zY, zZ, za, zb, zc, zd, ze, zf, zg, zh, zi, zj, zk, zl, zm, zn, zo, zp, zq, zr, zt, zu, zw, zx, zy, zz, cE, jA, jB, hap, killE, deadOf, rwE, cD, cO, jC, jD, jE, jF, jG, jH, jI, jJ, jK, jL, jM, jN, jO, jP, jQ, jR, jS, jT, jU, jV, jW, jX, jY, hP, hk, res8, kp8, lwC, rowKeyB, rowText, cond_true, cond_false, c1, p3, p0, p1, hr0, hr2, hr8, hkb, ikl, v1, d1, Int.toNat_natCast, Nat.reduceMul, hap, killE, deadOf, rwE, rcS, gtC, Cd.zero]; rotate_left; simp (maxSteps := 1000000) only [VC, qA, qB, qC, qD, qE, qF, qG, qH, qI, qJ, qK, qL, qM, qN, qO, qP, qQ, qR, qS, qT, qU, qV, qW, qX, qY, qZ, qe, qf, qg, qh, qj, qk, ql, qm, qn, qo, qp, qq, qt, qu, qv, ev, qw, qy, qz, zA, zB, zC, zD, zE, zF, zG, zH, zI, zJ, TE.sv, zK, zL, zM, ↓reduceIte, reduceCtorEq, Value.oneCell', Nat.reduceEqDiff, Nat.reduceAdd, Nat.reduceLT, Nat.reduceBEq, Nat.reduceSub, Nat.reduceLeDiff, zP, zQ, zR, zS, zT, zU, zV, zW, zX, zY, zZ, za, zb, zc, zd, ze, zf, zg, zh, zi, zj, zk, zl, zm, zn, zo, zp, zq, zr, zt, zu, zw, zx, zy, zz, cE, jA, jB, hap, killE, deadOf, rwE, cD, cO, jC, jD, jE, jF, jG, jH, jI, jJ, jK, jL, jM, jN, jO, jP, jQ, jR, jS, jT, jU, jV, jW, jX, jY, hP, lwC, rowKeyB, rowText, cond_true, cond_false, c1, p3, p0, p1, hr0, hr2, hr8, hkb, ikl, v1, d1, Int.toNat_natCast, Nat.reduceMul, hap, killE, deadOf, rwE, rcS, gtC, Cd.zero])
      rotate_left
      obtain ⟨iaz, hiaz, hz0az, hz1az, hz2az⟩ := info_parts infoAnG
      refine append_op (t := 45) (e := 49) (z := 13) (n := az.length) (m := 1) (bts := 96) (X := .rw 2 az.length) (Y := .sl 6 0 1 1) (cells := flatG anSx az) (news := [.i .i64 1, .s x.key, .i .u32 x.flags, .s x.val, .i .i64 x.exp, .i .u64 x.cas, .i .i64 x.last, .b x.stale, .b x.won, .i .u64 0, .b false, .b false, .b false]) (o := some 2) (by rw [hP]; exact Tryz.underlying45) (by rw [hP]; exact hiaz) hz0az hz1az hz2az rfl (by decide) (by show ¬ (49 : Nat) = DEAD; decide) (.some rfl) rfl rfl (src_sl (L := 13) rfl rfl) rfl rfl (fun pr => by intro y hy; simp only [List.mem_cons, List.not_mem_nil, or_false] at hy; rcases hy with rfl | rfl | rfl | rfl | rfl | rfl | rfl | rfl | rfl | rfl | rfl | rfl | rfl <;> trivial) (by omega) (by omega) (by rw [dn, hn0]; exact Nat.zero_le _) rfl (by simp) ?_
      (refine VT_ok hctr (rs := res8) true 300 _ _ _ ?_; simp (maxSteps := 1000000) only [VT, jf, jg, jZ, ja, jd, je, VC, qA, qB, qC, qD, qE, qF, qG, qH, qI, qJ, qK, qL, qM, qN, qO, qP, qQ, qR, qS, qT, qU, qV, qW, qX, qY, qZ, qe, qf, qg, qh, qj, qk, ql, qm, qn, qo, qp, qq, qt, qu, qv, ev, qw, qy, qz, zA, zB, zC, zD, zE, zF, zG, zH, zI, zJ, TE.sv, zK, zL, zM, ↓reduceIte, reduceCtorEq, Value.oneCell', Nat.reduceEqDiff, Nat.reduceAdd, Nat.reduceLT, Nat.reduceBEq, Nat.reduceSub, Nat.reduceLeDiff, zP, zQ, zR, zS, zT, zU, zV, zW, zX, zY, zZ, za, zb, zc, zd, ze, zf, zg, zh, zi, zj, zk, zl, zm, zn, zo, zp, zq, zr, zt, zu, zw, zx, zy, zz, cE, jA, jB, hap, killE, deadOf, rwE, cD, cO, jC, jD, jE, jF, jG, jH, jI, jJ, jK, jL, jM, jN, jO, jP, jQ, jR, jS, jT, jU, jV, jW, jX, jY, hP, hk, res8, kp8, lwC, rowKeyB, rowText, cond_true, cond_false, c1, p3, p0, p1, hr0, hr2, hr8, hkb, ikl, v1, d1, Int.toNat_natCast, Nat.reduceMul, hap, killE, deadOf, rwE, rcS, gtC, Cd.zero])
      obtain ⟨iws, hiws, hz0ws, hz1ws, hz2ws⟩ := info_parts infoItG
      refine append_op (t := 43) (e := 47) (z := 8) (n := ws.length) (m := 1) (bts := 72) (X := .rw 3 ws.length) (Y := .sl 8 0 1 1) (cells := flatG itSx ws) (news := [.s x.key, .i .u32 x.flags, .s x.val, .i .i64 x.exp, .i .u64 x.cas, .i .i64 x.last, .b x.stale, .b x.won]) (o := some 3) (by rw [hP]; exact Tryz.underlying43) (by rw [hP]; exact hiws) hz0ws hz1ws hz2ws rfl (by decide) (by show ¬ (47 : Nat) = DEAD; decide) (.some rfl) rfl rfl (src_sl (L := 8) rfl rfl) rfl rfl (fun pr => by intro y hy; simp only [List.mem_cons, List.not_mem_nil, or_false] at hy; rcases hy with rfl | rfl | rfl | rfl | rfl | rfl | rfl | rfl <;> trivial) (by omega) (by omega) (by rw [dn, hn0]; exact Nat.zero_le _) rfl (by simp) ?_
      (refine VT_ok hctr (rs := res8) true 300 _ _ _ ?_; simp (maxSteps := 1000000) only [VT, jf, jg, jZ, ja, jd, je, VC, qA, qB, qC, qD, qE, qF, qG, qH, qI, qJ, qK, qL, qM, qN, qO, qP, qQ, qR, qS, qT, qU, qV, qW, qX, qY, qZ, qe, qf, qg, qh, qj, qk, ql, qm, qn, qo, qp, qq, qt, qu, qv, ev, qw, qy, qz, zA, zB, zC, zD, zE, zF, zG, zH, zI, zJ, TE.sv, zK, zL, zM, ↓reduceIte, reduceCtorEq, Value.oneCell', Nat.reduceEqDiff, Nat.reduceAdd, Nat.reduceLT, Nat.reduceBEq, Nat.reduceSub, Nat.reduceLeDiff, zP, zQ, zR, zS, zT, zU, zV, zW, zX, zY, zZ, za, zb, zc, zd, ze, zf, zg, zh, zi, zj, zk, zl, zm, zn, zo, zp, zq, zr, zt, zu, zw, zx, zy, zz, cE, jA, jB, hap, killE, deadOf, rwE, cD, cO, jC, jD, jE, jF, jG, jH, jI, jJ, jK, jL, jM, jN, jO, jP, jQ, jR, jS, jT, jU, jV, jW, jX, jY, hP, hk, res8, kp8, lwC, rowKeyB, rowText, cond_true, cond_false, c1, p3, p0, p1, hr0, hr2, hr8, hkb, ikl, v1, d1, Int.toNat_natCast, Nat.reduceMul, hap, killE, deadOf, rwE, rcS, gtC, Cd.zero])
      have e1 : (cs ++ [gtC x]).length = cs.length + 1 := by simp
      have e2 : flatG rcS (cs ++ [gtC x]) = flatG rcS cs ++ rcS (gtC x) := by rw [flatG_app, flatG_one]
      have e3 : (az ++ [hitA x]).length = az.length + 1 := by simp
      have e4 : flatG anSx (az ++ [hitA x]) = flatG anSx az ++ anSx (hitA x) := by rw [flatG_app, flatG_one]
      have e5 : (ws ++ [x]).length = ws.length + 1 := by simp
      have e6 : flatG itSx (ws ++ [x]) = flatG itSx ws ++ itSx x := by rw [flatG_app, flatG_one]
      have eA : ansF M ys (j + 1) = az ++ [hitA x] := by rw [ansF_succ, haz, hm, hxd]; rfl
      have eW : wantF M ys (j + 1) = ws ++ [x] := by rw [wantF_yes M ys hm, hws, hxd]
      have hJ' := fun s => hJ ⟨j + 1, by omega, hall'⟩ s (by show n - (j + 1) < n - j; omega)
      simp only [hts, eA, eW] at hJ'
      have hJ2 := hJ' _ (fun d v h => h)
      refine Run_keepN (f := fun c => if c = 1 then 5 else if c = 2 then 7 else if c = 3 then 9 else c) (enK := enG false (cs ++ [gtC x]) (az ++ [hitA x]) (ws ++ [x])) (slK := slG (some ⟨b0, oo, none⟩) n c false a2 n2 c2 (j + 1) (az ++ [hitA x]).length (ws ++ [x]).length) ⟨fun q hq => absurd hq (by rw [dn, hn0]; exact Nat.not_lt_zero _), by rw [dn, hn0]; exact Nat.zero_le _⟩ (fun p q hp hq h => ?_) ?_ ?_ hJ2
      · have hp : p < 4 := hp
        have hq : q < 4 := hq
        have cp : p = 0 ∨ p = 1 ∨ p = 2 ∨ p = 3 := by omega
        have cq : q = 0 ∨ q = 1 ∨ q = 2 ∨ q = 3 := by omega
        rcases cp with rfl | rfl | rfl | rfl <;> rcases cq with rfl | rfl | rfl | rfl <;> first | rfl | (simp at h)
      · refine ⟨⟨_, rfl, fun ρ => ?_, ?_⟩, ⟨_, by rw [rwE, e1, e2]; rfl, fun ρ => ?_, flat_wf rcS_wf' _ _⟩, ⟨_, by rw [rwE, e3, e4]; rfl, fun ρ => ?_, flat_wf anSx_wf _ _⟩, ⟨_, by rw [rwE, e5, e6]; rfl, fun ρ => ?_, flat_wf itSx_wf _ _⟩, trivial⟩
        · simp only [rqE, dens, List.map_cons, List.map_nil, e1]; rfl
        · intro y hy
          simp only [rqE, List.mem_cons, List.not_mem_nil, or_false] at hy
          rcases hy with rfl | rfl | rfl | rfl | rfl | rfl | rfl | rfl | rfl | rfl | rfl <;> first | exact True.intro | exact (Nat.succ_lt_succ (Nat.succ_pos _))
        · exact (flat_den (f := rcS) (fun _ _ _ => rfl) (cs ++ [gtC x]) _ ρ).trans (congrArg (dens ρ) e2)
        · exact (flat_den (f := anSx) (fun _ _ _ => rfl) (az ++ [hitA x]) _ ρ).trans (congrArg (dens ρ) e4)
        · exact (flat_den (f := itSx) (fun _ _ _ => rfl) (ws ++ [x]) _ ρ).trans (congrArg (dens ρ) e6)
      · refine ⟨⟨?_, _, rfl, fun ρ => rfl⟩, ⟨?_, _, rfl, fun ρ => ?_⟩, ⟨?_, _, rfl, fun ρ => ?_⟩, ⟨?_, _, rfl, fun ρ => rfl⟩, ⟨?_, _, rfl, fun ρ => rfl⟩, ⟨?_, _, rfl, fun ρ => rfl⟩, ⟨?_, _, rfl, fun ρ => rfl⟩, ⟨?_, _, rfl, fun ρ => rfl⟩, ⟨?_, _, rfl, fun ρ => rfl⟩, trivial⟩
        any_goals simp [SV.wf, SC.wf, enG]
        all_goals simp [SV.den, SC.den, e3, e5]
      · exact append_happ (C := D) (N := 5) (t := 23) (e := 37) (z := 16) (n := cs.length) (m := 1) (bts := 136) (X := .rw 1 cs.length) (Y := .sl 4 0 1 1) (cells := flatG rcS cs) (o := some 1) (by rw [hP]; exact Tryz.underlying23) (by rw [hP]; exact (info_parts infoCmd).choose_spec.1) (info_parts infoCmd).choose_spec.2.1 (info_parts infoCmd).choose_spec.2.2.1 (info_parts infoCmd).choose_spec.2.2.2 rfl (by decide) (by show ¬ (37 : Nat) = DEAD; decide) (.some rfl) (src_sl (L := 16) rfl rfl) rfl rfl (fun pr => by intro y hy; simp only [List.mem_cons, List.not_mem_nil, or_false] at hy; rcases hy with rfl | rfl | rfl | rfl | rfl | rfl | rfl | rfl | rfl | rfl | rfl | rfl | rfl | rfl | rfl | rfl <;> trivial) (by omega) (by omega) (by rw [dn, hn0]; exact Nat.zero_le _) (fun q => mkC_1) rfl (fun q hq => by match q with | 0 => rfl | 1 => rfl | 2 => rfl | 3 => rfl | 4 => rfl | 5 => exact absurd rfl hq | _ + 6 => rfl)
    · have hm : M j = false := by rw [hMb, g1, g2]; rfl
      have d1 : decide ((j : Int) < ((n2 : Nat) : Int)) = true := by rw [← g1]; exact decide_eq_decide.2 (by omega)
      have jn2 : j < n2 := of_decide_eq_true g1
      obtain ⟨b2, o2, ha2, hb2, hcell2⟩ := hB j jn2
      have m0 : (j : Int) < ((n2 : Nat) : Int) := by omega
      have hrB : D.rd b2 (o2 + j) 1 = some [.b (B j)] := rd_arg (vs := [.bool (B j)]) hsN hwN hb2 (fun q v hq => by
        have h0 : q = 0 := by have := (List.getElem?_eq_some_iff.1 hq).1; simp at this; exact this
        subst h0
        simp only [List.getElem?_cons_zero, Option.some.injEq] at hq
        rw [← hq]; exact hcell2) rfl
      rw [g2] at hrB
      subst ha2
      (refine Run_drawE hctr (by rw [hP]; rfl) rs8_12 [hap (some 1) 37 16 (cs.length + 1) (flatG rcS cs ++ rcS (gtC x))] (ensure_type_of% (Cmp.of (by simp (maxSteps := 1000000) only [VC, qA, qB, qC, qD, qE, qF, qG, qH, qI, qJ, qK, qL, qM, qN, qO, qP, qQ, qR, qS, qT, qU, qV, qW, qX, qY, qZ, qe, qf, qg, qh, qj, qk, ql, qm, qn, qo, qp, qq, qt, qu, qv, ev, qw, qy, qz, zA, zB, zC, zD, zE, zF, zG, zH, zI, zJ, TE.sv, zK, zL, zM, ↓reduceIte, reduceCtorEq, Value.oneCell', Nat.reduceEqDiff, Nat.reduceAdd, Nat.reduceLT, Nat.reduceBEq, Nat.reduceSub, Nat.reduceLeDiff, zP, zQ, zR, zS, zT, zU, zV, zW, zX, zY, zZ, za, zb, zc, zd, ze, zf, zg, zh, zi, zj, zk, zl, zm, zn, zo, zp, zq, zr, zt, zu, zw, zx, zy, zz, cE, jA, jB, hap, killE, deadOf, rwE, cD, cO, jC, jD, jE, jF, jG, jH, jI, jJ, jK, jL, jM, jN, jO, jP, jQ, jR, jS, jT, jU, jV, jW, jX, jY, hP, lwC, rowKeyB, rowText, cond_true, cond_false, c1, p3, p0, p1, hr0, hr2, hr8, hkb, ikl, v1, d1, m0, hrB, Nat.mul_one, Int.toNat_natCast, Nat.reduceMul, hap, killE, deadOf, rwE, rcS, gtC, Cd.zero]; rfl)) "" Cmp.mk) (by kernel_rfl) (by kernel_rfl) (by first | exact lenB_one _ | kernel_rfl) (by kernel_rfl) (by rfl) (by rfl) (by first | exact firstN_self _ | rfl) (by rfl) ?_ ?_; rotate_left; refine VT_ok hctr (rs := res8) true 300 _ _ _ ?_; simp (maxSteps := 1000000) only [VT, jf, jg, jZ, ja, jd, je, VC, qA, qB, qC, qD, qE, qF, qG, qH, qI, qJ, qK, qL, qM, qN, qO, qP, qQ, qR, qS, qT, qU, qV, qW, qX, qY, qZ, qe, qf, qg, qh, qj, qk, ql, qm, qn, qo, qp, qq, qt, qu, qv, ev, qw, qy, qz, zA, zB, zC, zD, zE, zF, zG, zH, zI, zJ, TE.sv, zK, zL, zM, ↓reduceIte, reduceCtorEq, Value.oneCell', Nat.reduceEqDiff, Nat.reduceAdd, Nat.reduceLT, Nat.reduceBEq, Nat.reduceSub, Nat.reduceLeDiff, zP, zQ, zR, zS, zT, zU, zV, zW, zX, zY, zZ, za, zb, zc, zd, ze, zf, zg, zh, zi, zj, zk, zl, zm, zn, zo, zp, zq, zr, zt, zu, zw, zx, zy, zz, cE, jA, jB, hap, killE, deadOf, rwE, cD, cO, jC, jD, jE, jF, jG, jH, jI, jJ, jK, jL, jM, jN, jO, jP, jQ, jR, jS, jT, jU, jV, jW, jX, jY, hP, hk, res8, kp8, lwC, rowKeyB, rowText, cond_true, cond_false, c1, p3, p0, p1, hr0, hr2, hr8, hkb, ikl, v1, d1, m0, hrB, Nat.mul_one, Int.toNat_natCast, Nat.reduceMul, hap, killE, deadOf, rwE, rcS, gtC, Cd.zero]; rotate_left; simp (maxSteps := 1000000) only [VC, qA, qB, qC, qD, qE, qF, qG, qH, qI, qJ, qK, qL, qM, qN, qO, qP, qQ, qR, qS, qT, qU, qV, qW, qX, qY, qZ, qe, qf, qg, qh, qj, qk, ql, qm, qn, qo, qp, qq, qt, qu, qv, ev, qw, qy, qz, zA, zB, zC, zD, zE, zF, zG, zH, zI, zJ, TE.sv, zK, zL, zM, ↓reduceIte, reduceCtorEq, Value.oneCell', Nat.reduceEqDiff, Nat.reduceAdd, Nat.reduceLT, Nat.reduceBEq, Nat.reduceSub, Nat.reduceLeDiff, zP, zQ, zR, zS, zT, zU, zV, zW, zX, zY, zZ, za, zb, zc, zd, ze, zf, zg, zh, zi, zj, zk, zl, zm, zn, zo, zp, zq, zr, zt, zu, zw, zx, zy, zz, cE, jA, jB, hap, killE, deadOf, rwE, cD, cO, jC, jD, jE, jF, jG, jH, jI, jJ, jK, jL, jM, jN, jO, jP, jQ, jR, jS, jT, jU, jV, jW, jX, jY, hP, lwC, rowKeyB, rowText, cond_true, cond_false, c1, p3, p0, p1, hr0, hr2, hr8, hkb, ikl, v1, d1, m0, hrB, Nat.mul_one, Int.toNat_natCast, Nat.reduceMul, hap, killE, deadOf, rwE, rcS, gtC, Cd.zero])
      rotate_left
      obtain ⟨iaz, hiaz, hz0az, hz1az, hz2az⟩ := info_parts infoAnG
      refine append_op (t := 45) (e := 49) (z := 13) (n := az.length) (m := 1) (bts := 96) (X := .rw 2 az.length) (Y := .sl 6 0 1 1) (cells := flatG anSx az) (news := [.i .i64 1, .s x.key, .i .u32 x.flags, .s x.val, .i .i64 x.exp, .i .u64 x.cas, .i .i64 x.last, .b x.stale, .b x.won, .i .u64 0, .b false, .b false, .b false]) (o := some 2) (by rw [hP]; exact Tryz.underlying45) (by rw [hP]; exact hiaz) hz0az hz1az hz2az rfl (by decide) (by show ¬ (49 : Nat) = DEAD; decide) (.some rfl) rfl rfl (src_sl (L := 13) rfl rfl) rfl rfl (fun pr => by intro y hy; simp only [List.mem_cons, List.not_mem_nil, or_false] at hy; rcases hy with rfl | rfl | rfl | rfl | rfl | rfl | rfl | rfl | rfl | rfl | rfl | rfl | rfl <;> trivial) (by omega) (by omega) (by rw [dn, hn0]; exact Nat.zero_le _) rfl (by simp) ?_
      (refine VT_ok hctr (rs := res8) true 300 _ _ _ ?_; simp (maxSteps := 1000000) only [VT, jf, jg, jZ, ja, jd, je, VC, qA, qB, qC, qD, qE, qF, qG, qH, qI, qJ, qK, qL, qM, qN, qO, qP, qQ, qR, qS, qT, qU, qV, qW, qX, qY, qZ, qe, qf, qg, qh, qj, qk, ql, qm, qn, qo, qp, qq, qt, qu, qv, ev, qw, qy, qz, zA, zB, zC, zD, zE, zF, zG, zH, zI, zJ, TE.sv, zK, zL, zM, ↓reduceIte, reduceCtorEq, Value.oneCell', Nat.reduceEqDiff, Nat.reduceAdd, Nat.reduceLT, Nat.reduceBEq, Nat.reduceSub, Nat.reduceLeDiff, zP, zQ, zR, zS, zT, zU, zV, zW, zX, zY, zZ, za, zb, zc, zd, ze, zf, zg, zh, zi, zj, zk, zl, zm, zn, zo, zp, zq, zr, zt, zu, zw, zx, zy, zz, cE, jA, jB, hap, killE, deadOf, rwE, cD, cO, jC, jD, jE, jF, jG, jH, jI, jJ, jK, jL, jM, jN, jO, jP, jQ, jR, jS, jT, jU, jV, jW, jX, jY, hP, hk, res8, kp8, lwC, rowKeyB, rowText, cond_true, cond_false, c1, p3, p0, p1, hr0, hr2, hr8, hkb, ikl, v1, d1, m0, hrB, Nat.mul_one, Int.toNat_natCast, Nat.reduceMul, hap, killE, deadOf, rwE, rcS, gtC, Cd.zero])
      obtain ⟨iws, hiws, hz0ws, hz1ws, hz2ws⟩ := info_parts infoItG
      refine append_op (t := 43) (e := 47) (z := 8) (n := ws.length) (m := 1) (bts := 72) (X := .rw 3 ws.length) (Y := .sl 8 0 1 1) (cells := flatG itSx ws) (news := [.s x.key, .i .u32 x.flags, .s x.val, .i .i64 x.exp, .i .u64 x.cas, .i .i64 x.last, .b x.stale, .b x.won]) (o := some 3) (by rw [hP]; exact Tryz.underlying43) (by rw [hP]; exact hiws) hz0ws hz1ws hz2ws rfl (by decide) (by show ¬ (47 : Nat) = DEAD; decide) (.some rfl) rfl rfl (src_sl (L := 8) rfl rfl) rfl rfl (fun pr => by intro y hy; simp only [List.mem_cons, List.not_mem_nil, or_false] at hy; rcases hy with rfl | rfl | rfl | rfl | rfl | rfl | rfl | rfl <;> trivial) (by omega) (by omega) (by rw [dn, hn0]; exact Nat.zero_le _) rfl (by simp) ?_
      (refine VT_ok hctr (rs := res8) true 300 _ _ _ ?_; simp (maxSteps := 1000000) only [VT, jf, jg, jZ, ja, jd, je, VC, qA, qB, qC, qD, qE, qF, qG, qH, qI, qJ, qK, qL, qM, qN, qO, qP, qQ, qR, qS, qT, qU, qV, qW, qX, qY, qZ, qe, qf, qg, qh, qj, qk, ql, qm, qn, qo, qp, qq, qt, qu, qv, ev, qw, qy, qz, zA, zB, zC, zD, zE, zF, zG, zH, zI, zJ, TE.sv, zK, zL, zM, ↓reduceIte, reduceCtorEq, Value.oneCell', Nat.reduceEqDiff, Nat.reduceAdd, Nat.reduceLT, Nat.reduceBEq, Nat.reduceSub, Nat.reduceLeDiff, zP, zQ, zR, zS, zT, zU, zV, zW, zX, zY, zZ, za, zb, zc, zd, ze, zf, zg, zh, zi, zj, zk, zl, zm, zn, zo, zp, zq, zr, zt, zu, zw, zx, zy, zz, cE, jA, jB, hap, killE, deadOf, rwE, cD, cO, jC, jD, jE, jF, jG, jH, jI, jJ, jK, jL, jM, jN, jO, jP, jQ, jR, jS, jT, jU, jV, jW, jX, jY, hP, hk, res8, kp8, lwC, rowKeyB, rowText, cond_true, cond_false, c1, p3, p0, p1, hr0, hr2, hr8, hkb, ikl, v1, d1, m0, hrB, Nat.mul_one, Int.toNat_natCast, Nat.reduceMul, hap, killE, deadOf, rwE, rcS, gtC, Cd.zero])
      have e1 : (cs ++ [gtC x]).length = cs.length + 1 := by simp
      have e2 : flatG rcS (cs ++ [gtC x]) = flatG rcS cs ++ rcS (gtC x) := by rw [flatG_app, flatG_one]
      have e3 : (az ++ [hitA x]).length = az.length + 1 := by simp
      have e4 : flatG anSx (az ++ [hitA x]) = flatG anSx az ++ anSx (hitA x) := by rw [flatG_app, flatG_one]
      have e5 : (ws ++ [x]).length = ws.length + 1 := by simp
      have e6 : flatG itSx (ws ++ [x]) = flatG itSx ws ++ itSx x := by rw [flatG_app, flatG_one]
      have eA : ansF M ys (j + 1) = az ++ [hitA x] := by rw [ansF_succ, haz, hm, hxd]; rfl
      have eW : wantF M ys (j + 1) = ws ++ [x] := by rw [wantF_yes M ys hm, hws, hxd]
      have hJ' := fun s => hJ ⟨j + 1, by omega, hall'⟩ s (by show n - (j + 1) < n - j; omega)
      simp only [hts, eA, eW] at hJ'
      have hJ2 := hJ' _ (fun d v h => h)
      refine Run_keepN (f := fun c => if c = 1 then 5 else if c = 2 then 7 else if c = 3 then 9 else c) (enK := enG false (cs ++ [gtC x]) (az ++ [hitA x]) (ws ++ [x])) (slK := slG (some ⟨b0, oo, none⟩) n c false (some ⟨b2, o2, none⟩) n2 c2 (j + 1) (az ++ [hitA x]).length (ws ++ [x]).length) ⟨fun q hq => absurd hq (by rw [dn, hn0]; exact Nat.not_lt_zero _), by rw [dn, hn0]; exact Nat.zero_le _⟩ (fun p q hp hq h => ?_) ?_ ?_ hJ2
      · have hp : p < 4 := hp
        have hq : q < 4 := hq
        have cp : p = 0 ∨ p = 1 ∨ p = 2 ∨ p = 3 := by omega
        have cq : q = 0 ∨ q = 1 ∨ q = 2 ∨ q = 3 := by omega
        rcases cp with rfl | rfl | rfl | rfl <;> rcases cq with rfl | rfl | rfl | rfl <;> first | rfl | (simp at h)
      · refine ⟨⟨_, rfl, fun ρ => ?_, ?_⟩, ⟨_, by rw [rwE, e1, e2]; rfl, fun ρ => ?_, flat_wf rcS_wf' _ _⟩, ⟨_, by rw [rwE, e3, e4]; rfl, fun ρ => ?_, flat_wf anSx_wf _ _⟩, ⟨_, by rw [rwE, e5, e6]; rfl, fun ρ => ?_, flat_wf itSx_wf _ _⟩, trivial⟩
        · simp only [rqE, dens, List.map_cons, List.map_nil, e1]; rfl
        · intro y hy
          simp only [rqE, List.mem_cons, List.not_mem_nil, or_false] at hy
          rcases hy with rfl | rfl | rfl | rfl | rfl | rfl | rfl | rfl | rfl | rfl | rfl <;> first | exact True.intro | exact (Nat.succ_lt_succ (Nat.succ_pos _))
        · exact (flat_den (f := rcS) (fun _ _ _ => rfl) (cs ++ [gtC x]) _ ρ).trans (congrArg (dens ρ) e2)
        · exact (flat_den (f := anSx) (fun _ _ _ => rfl) (az ++ [hitA x]) _ ρ).trans (congrArg (dens ρ) e4)
        · exact (flat_den (f := itSx) (fun _ _ _ => rfl) (ws ++ [x]) _ ρ).trans (congrArg (dens ρ) e6)
      · refine ⟨⟨?_, _, rfl, fun ρ => rfl⟩, ⟨?_, _, rfl, fun ρ => ?_⟩, ⟨?_, _, rfl, fun ρ => ?_⟩, ⟨?_, _, rfl, fun ρ => rfl⟩, ⟨?_, _, rfl, fun ρ => rfl⟩, ⟨?_, _, rfl, fun ρ => rfl⟩, ⟨?_, _, rfl, fun ρ => rfl⟩, ⟨?_, _, rfl, fun ρ => rfl⟩, ⟨?_, _, rfl, fun ρ => rfl⟩, trivial⟩
        any_goals simp [SV.wf, SC.wf, enG]
        all_goals simp [SV.den, SC.den, e3, e5]
      · exact append_happ (C := D) (N := 5) (t := 23) (e := 37) (z := 16) (n := cs.length) (m := 1) (bts := 136) (X := .rw 1 cs.length) (Y := .sl 4 0 1 1) (cells := flatG rcS cs) (o := some 1) (by rw [hP]; exact Tryz.underlying23) (by rw [hP]; exact (info_parts infoCmd).choose_spec.1) (info_parts infoCmd).choose_spec.2.1 (info_parts infoCmd).choose_spec.2.2.1 (info_parts infoCmd).choose_spec.2.2.2 rfl (by decide) (by show ¬ (37 : Nat) = DEAD; decide) (.some rfl) (src_sl (L := 16) rfl rfl) rfl rfl (fun pr => by intro y hy; simp only [List.mem_cons, List.not_mem_nil, or_false] at hy; rcases hy with rfl | rfl | rfl | rfl | rfl | rfl | rfl | rfl | rfl | rfl | rfl | rfl | rfl | rfl | rfl | rfl <;> trivial) (by omega) (by omega) (by rw [dn, hn0]; exact Nat.zero_le _) (fun q => mkC_1) rfl (fun q hq => by match q with | 0 => rfl | 1 => rfl | 2 => rfl | 3 => rfl | 4 => rfl | 5 => exact absurd rfl hq | _ + 6 => rfl)
    · have hm : M j = true := by rw [hMb, g1, g2]; rfl
      have d1 : decide ((j : Int) < ((n2 : Nat) : Int)) = true := by rw [← g1]; exact decide_eq_decide.2 (by omega)
      have jn2 : j < n2 := of_decide_eq_true g1
      obtain ⟨b2, o2, ha2, hb2, hcell2⟩ := hB j jn2
      have m0 : (j : Int) < ((n2 : Nat) : Int) := by omega
      have hrB : D.rd b2 (o2 + j) 1 = some [.b (B j)] := rd_arg (vs := [.bool (B j)]) hsN hwN hb2 (fun q v hq => by
        have h0 : q = 0 := by have := (List.getElem?_eq_some_iff.1 hq).1; simp at this; exact this
        subst h0
        simp only [List.getElem?_cons_zero, Option.some.injEq] at hq
        rw [← hq]; exact hcell2) rfl
      rw [g2] at hrB
      subst ha2
      (refine Run_drawE hctr (by rw [hP]; rfl) rs8_12 [hap (some 1) 37 16 (cs.length + 1) (flatG rcS cs ++ rcS (gtC x))] (ensure_type_of% (Cmp.of (by simp (maxSteps := 1000000) only [VC, qA, qB, qC, qD, qE, qF, qG, qH, qI, qJ, qK, qL, qM, qN, qO, qP, qQ, qR, qS, qT, qU, qV, qW, qX, qY, qZ, qe, qf, qg, qh, qj, qk, ql, qm, qn, qo, qp, qq, qt, qu, qv, ev, qw, qy, qz, zA, zB, zC, zD, zE, zF, zG, zH, zI, zJ, TE.sv, zK, zL, zM, ↓reduceIte, reduceCtorEq, Value.oneCell', Nat.reduceEqDiff, Nat.reduceAdd, Nat.reduceLT, Nat.reduceBEq, Nat.reduceSub, Nat.reduceLeDiff, zP, zQ, zR, zS, zT, zU, zV, zW, zX, zY, zZ, za, zb, zc, zd, ze, zf, zg, zh, zi, zj, zk, zl, zm, zn, zo, zp, zq, zr, zt, zu, zw, zx, zy, zz, cE, jA, jB, hap, killE, deadOf, rwE, cD, cO, jC, jD, jE, jF, jG, jH, jI, jJ, jK, jL, jM, jN, jO, jP, jQ, jR, jS, jT, jU, jV, jW, jX, jY, hP, lwC, rowKeyB, rowText, cond_true, cond_false, c1, p3, p0, p1, hr0, hr2, hr8, hkb, ikl, v1, d1, m0, hrB, Nat.mul_one, Int.toNat_natCast, Nat.reduceMul, hap, killE, deadOf, rwE, rcS, gtC, Cd.zero]; rfl)) "" Cmp.mk) (by kernel_rfl) (by kernel_rfl) (by first | exact lenB_one _ | kernel_rfl) (by kernel_rfl) (by rfl) (by rfl) (by first | exact firstN_self _ | rfl) (by rfl) ?_ ?_; rotate_left; refine VT_ok hctr (rs := res8) true 300 _ _ _ ?_; simp (maxSteps := 1000000) only [VT, jf, jg, jZ, ja, jd, je, VC, qA, qB, qC, qD, qE, qF, qG, qH, qI, qJ, qK, qL, qM, qN, qO, qP, qQ, qR, qS, qT, qU, qV, qW, qX, qY, qZ, qe, qf, qg, qh, qj, qk, ql, qm, qn, qo, qp, qq, qt, qu, qv, ev, qw, qy, qz, zA, zB, zC, zD, zE, zF, zG, zH, zI, zJ, TE.sv, zK, zL, zM, ↓reduceIte, reduceCtorEq, Value.oneCell', Nat.reduceEqDiff, Nat.reduceAdd, Nat.reduceLT, Nat.reduceBEq, Nat.reduceSub, Nat.reduceLeDiff, zP, zQ, zR, zS, zT, zU, zV, zW, zX, zY, zZ, za, zb, zc, zd, ze, zf, zg, zh, zi, zj, zk, zl, zm, zn, zo, zp, zq, zr, zt, zu, zw, zx, zy, zz, cE, jA, jB, hap, killE, deadOf, rwE, cD, cO, jC, jD, jE, jF, jG, jH, jI, jJ, jK, jL, jM, jN, jO, jP, jQ, jR, jS, jT, jU, jV, jW, jX, jY, hP, hk, res8, kp8, lwC, rowKeyB, rowText, cond_true, cond_false, c1, p3, p0, p1, hr0, hr2, hr8, hkb, ikl, v1, d1, m0, hrB, Nat.mul_one, Int.toNat_natCast, Nat.reduceMul, hap, killE, deadOf, rwE, rcS, gtC, Cd.zero]; rotate_left; simp (maxSteps := 1000000) only [VC, qA, qB, qC, qD, qE, qF, qG, qH, qI, qJ, qK, qL, qM, qN, qO, qP, qQ, qR, qS, qT, qU, qV, qW, qX, qY, qZ, qe, qf, qg, qh, qj, qk, ql, qm, qn, qo, qp, qq, qt, qu, qv, ev, qw, qy, qz, zA, zB, zC, zD, zE, zF, zG, zH, zI, zJ, TE.sv, zK, zL, zM, ↓reduceIte, reduceCtorEq, Value.oneCell', Nat.reduceEqDiff, Nat.reduceAdd, Nat.reduceLT, Nat.reduceBEq, Nat.reduceSub, Nat.reduceLeDiff, zP, zQ, zR, zS, zT, zU, zV, zW, zX, zY, zZ, za, zb, zc, zd, ze, zf, zg, zh, zi, zj, zk, zl, zm, zn, zo, zp, zq, zr, zt, zu, zw, zx, zy, zz, cE, jA, jB, hap, killE, deadOf, rwE, cD, cO, jC, jD, jE, jF, jG, jH, jI, jJ, jK, jL, jM, jN, jO, jP, jQ, jR, jS, jT, jU, jV, jW, jX, jY, hP, lwC, rowKeyB, rowText, cond_true, cond_false, c1, p3, p0, p1, hr0, hr2, hr8, hkb, ikl, v1, d1, m0, hrB, Nat.mul_one, Int.toNat_natCast, Nat.reduceMul, hap, killE, deadOf, rwE, rcS, gtC, Cd.zero])
      rotate_left
      obtain ⟨iaz, hiaz, hz0az, hz1az, hz2az⟩ := info_parts infoAnG
      refine append_op (t := 45) (e := 49) (z := 13) (n := az.length) (m := 1) (bts := 96) (X := .rw 2 az.length) (Y := .sl 6 0 1 1) (cells := flatG anSx az) (news := [.i .i64 5, .s [], .i .u32 0, .s [], .i .i64 0, .i .u64 0, .i .i64 0, .b false, .b false, .i .u64 0, .b false, .b false, .b false]) (o := some 2) (by rw [hP]; exact Tryz.underlying45) (by rw [hP]; exact hiaz) hz0az hz1az hz2az rfl (by decide) (by show ¬ (49 : Nat) = DEAD; decide) (.some rfl) rfl rfl (src_sl (L := 13) rfl rfl) rfl rfl (fun pr => by intro y hy; simp only [List.mem_cons, List.not_mem_nil, or_false] at hy; rcases hy with rfl | rfl | rfl | rfl | rfl | rfl | rfl | rfl | rfl | rfl | rfl | rfl | rfl <;> trivial) (by omega) (by omega) (by rw [dn, hn0]; exact Nat.zero_le _) rfl (by simp) ?_
      (refine VT_ok hctr (rs := res8) true 300 _ _ _ ?_; simp (maxSteps := 1000000) only [VT, jf, jg, jZ, ja, jd, je, VC, qA, qB, qC, qD, qE, qF, qG, qH, qI, qJ, qK, qL, qM, qN, qO, qP, qQ, qR, qS, qT, qU, qV, qW, qX, qY, qZ, qe, qf, qg, qh, qj, qk, ql, qm, qn, qo, qp, qq, qt, qu, qv, ev, qw, qy, qz, zA, zB, zC, zD, zE, zF, zG, zH, zI, zJ, TE.sv, zK, zL, zM, ↓reduceIte, reduceCtorEq, Value.oneCell', Nat.reduceEqDiff, Nat.reduceAdd, Nat.reduceLT, Nat.reduceBEq, Nat.reduceSub, Nat.reduceLeDiff, zP, zQ, zR, zS, zT, zU, zV, zW, zX, zY, zZ, za, zb, zc, zd, ze, zf, zg, zh, zi, zj, zk, zl, zm, zn, zo, zp, zq, zr, zt, zu, zw, zx, zy, zz, cE, jA, jB, hap, killE, deadOf, rwE, cD, cO, jC, jD, jE, jF, jG, jH, jI, jJ, jK, jL, jM, jN, jO, jP, jQ, jR, jS, jT, jU, jV, jW, jX, jY, hP, hk, res8, kp8, lwC, rowKeyB, rowText, cond_true, cond_false, c1, p3, p0, p1, hr0, hr2, hr8, hkb, ikl, v1, d1, m0, hrB, Nat.mul_one, Int.toNat_natCast, Nat.reduceMul, hap, killE, deadOf, rwE, rcS, gtC, Cd.zero])
      have e1 : (cs ++ [gtC x]).length = cs.length + 1 := by simp
      have e2 : flatG rcS (cs ++ [gtC x]) = flatG rcS cs ++ rcS (gtC x) := by rw [flatG_app, flatG_one]
      have e3 : (az ++ [missA]).length = az.length + 1 := by simp
      have e4 : flatG anSx (az ++ [missA]) = flatG anSx az ++ anSx (missA) := by rw [flatG_app, flatG_one]
      have e5 : (ws ++ [x]).length = ws.length + 1 := by simp
      have e6 : flatG itSx (ws ++ [x]) = flatG itSx ws ++ itSx x := by rw [flatG_app, flatG_one]
      have eA : ansF M ys (j + 1) = az ++ [missA] := by rw [ansF_succ, haz, hm]; rfl
      have eW : wantF M ys (j + 1) = ws := by rw [wantF_no M ys hm, hws]
      have hJ' := fun s => hJ ⟨j + 1, by omega, hall'⟩ s (by show n - (j + 1) < n - j; omega)
      simp only [hts, eA, eW] at hJ'
      have hJ2 := hJ' _ (fun d v h => h)
      refine Run_keepN (f := fun c => if c = 1 then 5 else if c = 2 then 7 else if c = 3 then 3 else c) (enK := enG false (cs ++ [gtC x]) (az ++ [missA]) (ws)) (slK := slG (some ⟨b0, oo, none⟩) n c false (some ⟨b2, o2, none⟩) n2 c2 (j + 1) (az ++ [missA]).length (ws).length) ⟨fun q hq => absurd hq (by rw [dn, hn0]; exact Nat.not_lt_zero _), by rw [dn, hn0]; exact Nat.zero_le _⟩ (fun p q hp hq h => ?_) ?_ ?_ hJ2
      · have hp : p < 4 := hp
        have hq : q < 4 := hq
        have cp : p = 0 ∨ p = 1 ∨ p = 2 ∨ p = 3 := by omega
        have cq : q = 0 ∨ q = 1 ∨ q = 2 ∨ q = 3 := by omega
        rcases cp with rfl | rfl | rfl | rfl <;> rcases cq with rfl | rfl | rfl | rfl <;> first | rfl | (simp at h)
      · refine ⟨⟨_, rfl, fun ρ => ?_, ?_⟩, ⟨_, by rw [rwE, e1, e2]; rfl, fun ρ => ?_, flat_wf rcS_wf' _ _⟩, ⟨_, by rw [rwE, e3, e4]; rfl, fun ρ => ?_, flat_wf anSx_wf _ _⟩, ⟨_, by rfl, fun ρ => ?_, flat_wf itSx_wf _ _⟩, trivial⟩
        · simp only [rqE, dens, List.map_cons, List.map_nil, e1]; rfl
        · intro y hy
          simp only [rqE, List.mem_cons, List.not_mem_nil, or_false] at hy
          rcases hy with rfl | rfl | rfl | rfl | rfl | rfl | rfl | rfl | rfl | rfl | rfl <;> first | exact True.intro | exact (Nat.succ_lt_succ (Nat.succ_pos _))
        · exact (flat_den (f := rcS) (fun _ _ _ => rfl) (cs ++ [gtC x]) _ ρ).trans (congrArg (dens ρ) e2)
        · exact (flat_den (f := anSx) (fun _ _ _ => rfl) (az ++ [missA]) _ ρ).trans (congrArg (dens ρ) e4)
        · exact flat_den (f := itSx) (fun _ _ _ => rfl) ws _ ρ
      · refine ⟨⟨?_, _, rfl, fun ρ => rfl⟩, ⟨?_, _, rfl, fun ρ => ?_⟩, ⟨?_, _, rfl, fun ρ => ?_⟩, ⟨?_, _, rfl, fun ρ => rfl⟩, ⟨?_, _, rfl, fun ρ => rfl⟩, ⟨?_, _, rfl, fun ρ => rfl⟩, ⟨?_, _, rfl, fun ρ => rfl⟩, ⟨?_, _, rfl, fun ρ => rfl⟩, ⟨?_, _, rfl, fun ρ => rfl⟩, trivial⟩
        any_goals simp [SV.wf, SC.wf, enG]
        all_goals simp [SV.den, SC.den, e3, e5]
      · exact append_happ (C := D) (N := 5) (t := 23) (e := 37) (z := 16) (n := cs.length) (m := 1) (bts := 136) (X := .rw 1 cs.length) (Y := .sl 4 0 1 1) (cells := flatG rcS cs) (o := some 1) (by rw [hP]; exact Tryz.underlying23) (by rw [hP]; exact (info_parts infoCmd).choose_spec.1) (info_parts infoCmd).choose_spec.2.1 (info_parts infoCmd).choose_spec.2.2.1 (info_parts infoCmd).choose_spec.2.2.2 rfl (by decide) (by show ¬ (37 : Nat) = DEAD; decide) (.some rfl) (src_sl (L := 16) rfl rfl) rfl rfl (fun pr => by intro y hy; simp only [List.mem_cons, List.not_mem_nil, or_false] at hy; rcases hy with rfl | rfl | rfl | rfl | rfl | rfl | rfl | rfl | rfl | rfl | rfl | rfl | rfl | rfl | rfl | rfl <;> trivial) (by omega) (by omega) (by rw [dn, hn0]; exact Nat.zero_le _) (fun q => mkC_1) rfl (fun q hq => by match q with | 0 => rfl | 1 => rfl | 2 => rfl | 3 => rfl | 4 => rfl | 5 => exact absurd rfl hq | _ + 6 => rfl)
  · obtain rfl : j = n := by omega
    have c1 : decide ((j : Int) < ((j : Nat) : Int)) = false := decide_eq_false (by omega)
    (refine VT_ok hctr (rs := res8) true 300 _ _ _ ?_; simp (maxSteps := 1000000) only [VT, jf, jg, jZ, ja, jd, je, VC, qA, qB, qC, qD, qE, qF, qG, qH, qI, qJ, qK, qL, qM, qN, qO, qP, qQ, qR, qS, qT, qU, qV, qW, qX, qY, qZ, qe, qf, qg, qh, qj, qk, ql, qm, qn, qo, qp, qq, qt, qu, qv, ev, qw, qy, qz, zA, zB, zC, zD, zE, zF, zG, zH, zI, zJ, TE.sv, zK, zL, zM, ↓reduceIte, reduceCtorEq, Value.oneCell', Nat.reduceEqDiff, Nat.reduceAdd, Nat.reduceLT, Nat.reduceBEq, Nat.reduceSub, Nat.reduceLeDiff, zP, zQ, zR, zS, zT, zU, zV, zW, zX, zY, zZ, za, zb, zc, zd, ze, zf, zg, zh, zi, zj, zk, zl, zm, zn, zo, zp, zq, zr, zt, zu, zw, zx, zy, zz, cE, jA, jB, hap, killE, deadOf, rwE, cD, cO, jC, jD, jE, jF, jG, jH, jI, jJ, jK, jL, jM, jN, jO, jP, jQ, jR, jS, jT, jU, jV, jW, jX, jY, hP, hk, res8, kp8, slG, enG, rqE, rwE, lwC, rowKeyB, rowText, cond_true, cond_false, c1])
    refine hX rfl rfl ?_
    have hP := hP0; have hk := hk0; clear hctr hctr0
    have hok : ∀ x ∈ az, AnOk x := fun x hx => by
      rw [← haz] at hx
      rcases ansF_mem M ys hx with rfl | ⟨k, hk', rfl⟩
      · exact miss_ok
      · refine hit_ok (hall k hk') (hit _ ?_).1
        rw [List.getD_eq_getElem?_getD, List.getElem?_eq_getElem (by rw [hraw.1]; exact hk')]
        exact List.getElem_mem _
    have hwok : ∀ x ∈ ws, okI x ∧ ItB x := fun x hx => by
      rw [← hws] at hx
      obtain ⟨k, hk', rfl⟩ := wantF_mem M ys hx
      refine ⟨hall k hk', (hit _ ?_).1⟩
      rw [List.getD_eq_getElem?_getD, List.getElem?_eq_getElem (by rw [hraw.1]; exact hk')]
      exact List.getElem_mem _
    have hctr := gwC_ok (r := rqG false cs) (xs := az) hP hE (by omega) (by show cs.length ≤ _; omega) hok rfl (fun x hx => by
      have hx : cs[0]? = some x := hx
      rw [← jB, List.getElem?_map, Option.map_eq_some_iff] at hx
      obtain ⟨y, _, rfl⟩ := hx; rfl)
    by_cases hj0 : j = 0
    · have z1 : ((j : Int) == 0) = true := by rw [hj0]; rfl
      have hS : (if (rqG false cs).cmds.length = 0 then [] else valuesF (rqG false cs).tokens az) = [] := if_pos (by show cs.length = 0; omega)
      (refine VT_ok hctr (rs := res8) true 300 _ _ _ ?_; simp (maxSteps := 1000000) only [VT, jf, jg, jZ, ja, jd, je, VC, qA, qB, qC, qD, qE, qF, qG, qH, qI, qJ, qK, qL, qM, qN, qO, qP, qQ, qR, qS, qT, qU, qV, qW, qX, qY, qZ, qe, qf, qg, qh, qj, qk, ql, qm, qn, qo, qp, qq, qt, qu, qv, ev, qw, qy, qz, zA, zB, zC, zD, zE, zF, zG, zH, zI, zJ, TE.sv, zK, zL, zM, ↓reduceIte, reduceCtorEq, Value.oneCell', Nat.reduceEqDiff, Nat.reduceAdd, Nat.reduceLT, Nat.reduceBEq, Nat.reduceSub, Nat.reduceLeDiff, zP, zQ, zR, zS, zT, zU, zV, zW, zX, zY, zZ, za, zb, zc, zd, ze, zf, zg, zh, zi, zj, zk, zl, zm, zn, zo, zp, zq, zr, zt, zu, zw, zx, zy, zz, cE, jA, jB, hap, killE, deadOf, rwE, cD, cO, jC, jD, jE, jF, jG, jH, jI, jJ, jK, jL, jM, jN, jO, jP, jQ, jR, jS, jT, jU, jV, jW, jX, jY, hP, hk, res8, kp8, gwC, rowReply, lwC, rowKeyB, rowText, cond_true, cond_false, z1, hS, beq_self_eq_true])
      exact ⟨⟨1, 2, rfl, rfl, rfl, rfl⟩, fin _⟩
    have z1 : ((j : Int) == 0) = false := by simp only [beq_eq_false_iff_ne, ne_eq]; omega
    have hS : (if (rqG false cs).cmds.length = 0 then [] else valuesF (rqG false cs).tokens az) = restF false ws 0 := by
      rw [if_neg (by show ¬ cs.length = 0; omega)]
      show valuesF false az = _
      rw [values_tell, ← haz, tell_want, hws]; rfl
    (refine VT_ok hctr (rs := res8) true 300 _ _ _ ?_; simp (maxSteps := 1000000) only [VT, jf, jg, jZ, ja, jd, je, VC, qA, qB, qC, qD, qE, qF, qG, qH, qI, qJ, qK, qL, qM, qN, qO, qP, qQ, qR, qS, qT, qU, qV, qW, qX, qY, qZ, qe, qf, qg, qh, qj, qk, ql, qm, qn, qo, qp, qq, qt, qu, qv, ev, qw, qy, qz, zA, zB, zC, zD, zE, zF, zG, zH, zI, zJ, TE.sv, zK, zL, zM, ↓reduceIte, reduceCtorEq, Value.oneCell', Nat.reduceEqDiff, Nat.reduceAdd, Nat.reduceLT, Nat.reduceBEq, Nat.reduceSub, Nat.reduceLeDiff, zP, zQ, zR, zS, zT, zU, zV, zW, zX, zY, zZ, za, zb, zc, zd, ze, zf, zg, zh, zi, zj, zk, zl, zm, zn, zo, zp, zq, zr, zt, zu, zw, zx, zy, zz, cE, jA, jB, hap, killE, deadOf, rwE, cD, cO, jC, jD, jE, jF, jG, jH, jI, jJ, jK, jL, jM, jN, jO, jP, jQ, jR, jS, jT, jU, jV, jW, jX, jY, hP, hk, res8, kp8, gwC, rowReply, lwC, rowKeyB, rowText, cond_true, cond_false, z1, hS])
    refine ⟨⟨1, 2, rfl, rfl, rfl, rfl⟩, ?_⟩
    have hend : restF false ws ws.length = b_end := restF_end (Nat.le_refl _)
    by_cases hk0' : ws.length = 0
    · have c2 : decide ((0 : Int) < ((ws.length : Nat) : Int)) = false := decide_eq_false (by omega)
      rw [hk0'] at hend
      rw [hend]
      refine Run_loopP (ι := Unit) (fun _ => [(13, .c (.i .i64 0)), (12, .c (.s b_end)), (10, .c (.rw 3 ws.length)), (7, .c (.b true)), (6, .c (.b false))]) (fun _ => enG false cs az ws) (fun _ => 0) () (sub_mk ⟨rfl, rfl, rfl, rfl, rfl, trivial⟩) rfl ?_
      intro _ D dP dS dw dn dr dk ddf dPan dRet hX hJ
      have hP0 := hP; have hk0 := hk; have hctr0 := hctr
      have hP : D.P = Tryz.prog := by rw [dP]; exact hP0
      have hk : D.kp = kp8 := by rw [dk]; exact hk0
      have hctr : CtrOk D lwC := lwC_ok hP (by rw [dS, dw]; exact hE)
      (refine VT_ok hctr (rs := res8) true 300 _ _ _ ?_; simp (maxSteps := 1000000) only [VT, jf, jg, jZ, ja, jd, je, VC, qA, qB, qC, qD, qE, qF, qG, qH, qI, qJ, qK, qL, qM, qN, qO, qP, qQ, qR, qS, qT, qU, qV, qW, qX, qY, qZ, qe, qf, qg, qh, qj, qk, ql, qm, qn, qo, qp, qq, qt, qu, qv, ev, qw, qy, qz, zA, zB, zC, zD, zE, zF, zG, zH, zI, zJ, TE.sv, zK, zL, zM, ↓reduceIte, reduceCtorEq, Value.oneCell', Nat.reduceEqDiff, Nat.reduceAdd, Nat.reduceLT, Nat.reduceBEq, Nat.reduceSub, Nat.reduceLeDiff, zP, zQ, zR, zS, zT, zU, zV, zW, zX, zY, zZ, za, zb, zc, zd, ze, zf, zg, zh, zi, zj, zk, zl, zm, zn, zo, zp, zq, zr, zt, zu, zw, zx, zy, zz, cE, jA, jB, hap, killE, deadOf, rwE, cD, cO, jC, jD, jE, jF, jG, jH, jI, jJ, jK, jL, jM, jN, jO, jP, jQ, jR, jS, jT, jU, jV, jW, jX, jY, hP, hk, res8, kp8, enG, rwE, rqE, lwC, rowKeyB, rowText, cond_true, cond_false, c2])
      refine hX rfl rfl ?_
      have hP := hP0; have hk := hk0; have hctr := hctr0
      (refine VT_ok hctr (rs := res8) true 300 _ _ _ ?_; simp (maxSteps := 1000000) only [VT, jf, jg, jZ, ja, jd, je, VC, qA, qB, qC, qD, qE, qF, qG, qH, qI, qJ, qK, qL, qM, qN, qO, qP, qQ, qR, qS, qT, qU, qV, qW, qX, qY, qZ, qe, qf, qg, qh, qj, qk, ql, qm, qn, qo, qp, qq, qt, qu, qv, ev, qw, qy, qz, zA, zB, zC, zD, zE, zF, zG, zH, zI, zJ, TE.sv, zK, zL, zM, ↓reduceIte, reduceCtorEq, Value.oneCell', Nat.reduceEqDiff, Nat.reduceAdd, Nat.reduceLT, Nat.reduceBEq, Nat.reduceSub, Nat.reduceLeDiff, zP, zQ, zR, zS, zT, zU, zV, zW, zX, zY, zZ, za, zb, zc, zd, ze, zf, zg, zh, zi, zj, zk, zl, zm, zn, zo, zp, zq, zr, zt, zu, zw, zx, zy, zz, cE, jA, jB, hap, killE, deadOf, rwE, cD, cO, jC, jD, jE, jF, jG, jH, jI, jJ, jK, jL, jM, jN, jO, jP, jQ, jR, jS, jT, jU, jV, jW, jX, jY, hP, hk, res8, kp8, lwC, rowKeyB, rowText, cond_true, cond_false, b_end, beq_self_eq_true])
      exact fin _
    refine Run_alias (M := { m : Nat // ws.length ≤ m ∧ m ≤ maxLen }) (Φ := fun m ρ => (SC.sl 3 0 ws.length m.1).den ρ = (SC.rw 3 ws.length).den ρ) (en' := fun m => enG false cs az ws) (sl' := fun m => slW false ws.length m.1 0 (restF false ws 0)) (fun ρ w hw => row_sl (N := 3) (n := ws.length) hw rfl hk0') (fun m => ?_) (fun m => ?_) ?_
    · exact aliE_same _ _ _
    · refine ⟨⟨_, rfl, fun _ _ => rfl, id⟩, ⟨_, rfl, fun _ _ => rfl, id⟩, ⟨_, rfl, fun _ h => h, id⟩, ⟨_, rfl, fun _ _ => rfl, id⟩, ⟨_, rfl, fun _ _ => rfl, id⟩, ⟨_, rfl, fun _ _ => rfl, id⟩, trivial⟩
    rintro ⟨m, hm1, hm2⟩
    show Run C _ _ (slW false ws.length m 0 (restF false ws 0)) (enG false cs az ws)
    refine Run_loopP (ι := { i : Nat // i ≤ ws.length }) (fun i => slW false ws.length m i.1 (restF false ws i.1)) (fun _ => enG false cs az ws) (fun i => ws.length - i.1) ⟨0, Nat.zero_le _⟩ (sub_mk ⟨rfl, rfl, rfl, rfl, rfl, rfl, trivial⟩) rfl ?_
    rintro ⟨i, hi⟩ D dP dS dw dn dr dk ddf dPan dRet hX hJ
    have hP0 := hP; have hk0 := hk; have hctr0 := hctr
    have hP : D.P = Tryz.prog := by rw [dP]; exact hP0
    have hk : D.kp = kp8 := by rw [dk]; exact hk0
    have hED : ∀ w', Upd D.S D.w0 w' → EnvT w' := by rw [dS, dw]; exact hE
    show Run D _ _ (slW false ws.length m i (restF false ws i)) (enG false cs az ws)
    have hctr : CtrOk D (gwC (rqG false cs) az) := fun f en ys p v h1 h2 => by
      have := hctr0 f en ys p v h1 h2
      rw [dP, dS, dw]; exact this
    by_cases hik : i < ws.length
    · obtain ⟨x, hx⟩ : ∃ x, ws[i]? = some x := ⟨_, List.getElem?_eq_getElem hik⟩
      have c2 : decide ((i : Int) < ((ws.length : Nat) : Int)) = true := decide_eq_true (by omega)
      have p3 : IntKind.i64.wrap ((i : Int) + 1) = ((i + 1 : Nat) : Int) := by rw [IntWalk.i64_in _ (by omega)]; rfl
      have p0 : (0 : Int) ≤ (i : Int) := by omega
      have p1 : (i : Int) < ((ws.length : Nat) : Int) := by omega
      obtain ⟨⟨kx, vx⟩, ib⟩ := hwok x (List.mem_of_getElem? hx)
      obtain ⟨f0, f1, f2, f3⟩ := ib
      have hkx := key_le kx
      have hst := restF_step (tok := false) hx
      obtain ⟨t1, t2, t3, t4, t5⟩ := told_line (tokens := false) (x := x) kx (restF false ws (i + 1))
      rw [← hst] at t1 t3 t4 t5
      obtain ⟨J, hJJ⟩ : ∃ J, joinB b_value (itW false x) = J := ⟨_, rfl⟩
      rw [hJJ] at t1 t2 t3 t4 t5
      have jl : J.length ≤ 1000 := by
        have d1 := dec_len_le x.flags.toNat (by omega)
        have d2 := dec_len_le x.cas.toNat (by omega)
        have d3 := dec_len_le x.val.length (by omega)
        rw [← hJJ]
        simp only [itW, if_true, Bool.false_eq_true, if_false, joinB, b_value, List.length_append, List.length_cons, List.length_nil]; omega
      obtain ⟨s, hs⟩ : ∃ s, restF false ws i = s := ⟨_, rfl⟩
      have sl0 : s.length ≤ 100000000 := by
        have : ∀ (l : List It), (∀ y ∈ l, okI y ∧ ItB y) → (l.flatMap (itTold false)).length ≤ 1200000 * l.length := by
          intro l
          induction l with
          | nil => intro _; simp
          | cons y l ih =>
            intro h
            have h1 := ih fun z hz => h z (by simp [hz])
            have h2 := itTold_le (tokens := false) (a := hitA y) (hit_ok (h y (by simp)).1 (h y (by simp)).2)
            have h2 : (itTold false y).length ≤ 1200000 := h2
            simp only [List.flatMap_cons, List.length_append, List.length_cons]; omega
        have h1 := this (ws.drop i) fun y hy => hwok y (List.mem_of_mem_drop hy)
        have h2 : (ws.drop i).length ≤ ws.length := by rw [List.length_drop]; omega
        rw [← hs]
        unfold restF
        simp only [List.length_append, b_end, List.length_cons, List.length_nil]; omega
      rw [hs] at t1 t3 t4 t5 ⊢
      have t1a : (lineV s).1 = J := by rw [t1]
      have t1b : (((lineV s).2 : Nat) : Int) = ((J.length + 2 : Nat) : Int) := by rw [t1]
      (refine VT_ok hctr (rs := res8) true 300 _ _ _ ?_; simp (maxSteps := 1000000) only [VT, jf, jg, jZ, ja, jd, je, VC, qA, qB, qC, qD, qE, qF, qG, qH, qI, qJ, qK, qL, qM, qN, qO, qP, qQ, qR, qS, qT, qU, qV, qW, qX, qY, qZ, qe, qf, qg, qh, qj, qk, ql, qm, qn, qo, qp, qq, qt, qu, qv, ev, qw, qy, qz, zA, zB, zC, zD, zE, zF, zG, zH, zI, zJ, TE.sv, zK, zL, zM, ↓reduceIte, reduceCtorEq, Value.oneCell', Nat.reduceEqDiff, Nat.reduceAdd, Nat.reduceLT, Nat.reduceBEq, Nat.reduceSub, Nat.reduceLeDiff, zP, zQ, zR, zS, zT, zU, zV, zW, zX, zY, zZ, za, zb, zc, zd, ze, zf, zg, zh, zi, zj, zk, zl, zm, zn, zo, zp, zq, zr, zt, zu, zw, zx, zy, zz, cE, jA, jB, hap, killE, deadOf, rwE, cD, cO, jC, jD, jE, jF, jG, jH, jI, jJ, jK, jL, jM, jN, jO, jP, jQ, jR, jS, jT, jU, jV, jW, jX, jY, hP, hk, res8, kp8, slW, enG, rqE, rwE, gwC, lwC, rowKeyB, rowText, cond_true, cond_false, c2, p3, p0, p1, t1a, t1b])
      have t2' : wordsF (J.length + 1) J = [b_value, x.key, Lib.decDigits x.flags.toNat, Lib.decDigits x.val.length] := t2
      refine ⟨by omega, ?_⟩
      refine Run_hcall rfl (.c (.rw 4 4)) (zF (enG false cs az ws) (wdE [b_value, x.key, Lib.decDigits x.flags.toNat, Lib.decDigits x.val.length])) (by
        have h := split_h (C := D) (nE := 4) (N := 4) (mk := fun c => 4 ≤ c ∧ c < 5) (en := enG false cs az ws) (en' := zF (enG false cs az ws) (wdE (wordsF (J.length + 1) J))) J (by omega) hP hED (fun q => by constructor <;> omega) (by rw [dn, hn0]; exact Nat.zero_le _) rfl (fun q hq => nth_snoc_ne hq)
        rw [t2'] at h
        exact h) (by simp [zG, enG, zF]) (by simp) ?_
      refine Run_alias (M := { m : Nat // 4 ≤ m ∧ m ≤ maxLen }) (Φ := fun m ρ => (SC.sl 4 0 4 m.1).den ρ = (SC.rw 4 4).den ρ) (en' := fun m => zF (enG false cs az ws) (rwE 9 1 4 [.s [86, 65, 76, 85, 69], .s x.key, .s (Lib.decDigits x.flags.toNat), .s (Lib.decDigits x.val.length)])) (sl' := fun m' => [(112, .c (.sl 4 0 4 m'.1)), (15, .c (.i .i64 ((J.length + 2 : Nat) : Int))), (14, .c (.s J)), (13, .c (.i .i64 (i : Int))), (12, .c (.s s)), (10, .c (.sl 3 0 ws.length m)), (7, .c (.b true)), (6, .c (.b false)), (1, .c (.b false))]) (fun ρ w hw => row_sl (N := 4) (n := 4) hw rfl (by decide)) (fun m => ?_) (fun m => ?_) ?_
      · exact aliE_same _ _ _
      · refine ⟨⟨_, rfl, fun _ h => h, id⟩, ⟨_, rfl, fun _ _ => rfl, id⟩, ⟨_, rfl, fun _ _ => rfl, id⟩, ⟨_, rfl, fun _ _ => rfl, id⟩, ⟨_, rfl, fun _ _ => rfl, id⟩, ⟨_, rfl, fun _ _ => rfl, id⟩, ⟨_, rfl, fun _ _ => rfl, id⟩, ⟨_, rfl, fun _ _ => rfl, id⟩, ⟨_, rfl, fun _ _ => rfl, id⟩, trivial⟩
      rintro ⟨m3, hm3, hm4⟩
      have r0 : zD (flatG itSx ws) (i * 8) = some (.s x.key) := by have := flatG_nth (z := 8) (j := 0) itSx_len hx (by decide); rwa [Nat.add_zero] at this
      have r1 : zD (flatG itSx ws) (i * 8 + 1) = some (.i .u32 x.flags) := flatG_nth (z := 8) (j := 1) itSx_len hx (by decide)
      have r2 : zD (flatG itSx ws) (i * 8 + 2) = some (.s x.val) := flatG_nth (z := 8) (j := 2) itSx_len hx (by decide)
      have r4 : zD (flatG itSx ws) (i * 8 + 4) = some (.i .u64 x.cas) := flatG_nth (z := 8) (j := 4) itSx_len hx (by decide)
      have wf : IntKind.u64.wrap x.flags = x.flags := by rw [IntKind.wrap_u64]; omega
      have wv : IntKind.u64.wrap ((x.val.length : Nat) : Int) = ((x.val.length : Nat) : Int) := by rw [IntKind.wrap_u64]; omega
      have f64 : x.flags < 18446744073709551616 := by omega
      have v64 : ((x.val.length : Nat) : Int) < 18446744073709551616 := by omega
      have v0 : (0 : Int) ≤ ((x.val.length : Nat) : Int) := by omega
      have y1 : (((J.length + 2 : Nat) : Int) == 0) = false := by simp only [beq_eq_false_iff_ne, ne_eq]; omega
      have y2 : decide (((4 : Nat) : Int) < 4) = false := rfl
      have y3 : (((4 : Nat) : Int) == 5) = false := rfl
      have y4 : (0 : Int) < ((4 : Nat) : Int) := by decide
      have y5 : (1 : Int) < ((4 : Nat) : Int) := by decide
      have y6 : (2 : Int) < ((4 : Nat) : Int) := by decide
      have y7 : (3 : Int) < ((4 : Nat) : Int) := by decide

      have ub : Tryz.prog.underlying 4 = some .bool := Tryz.underlying4
      have e1 : IntKind.i64.wrap (((J.length + 2 : Nat) : Int) + ((x.val.length : Nat) : Int)) = ((J.length + 2 + x.val.length : Nat) : Int) := by rw [IntWalk.i64_in _ (by omega)]; omega
      have e2 : IntKind.i64.wrap (((J.length + 2 + x.val.length : Nat) : Int) + 2) = ((J.length + 2 + (x.val.length + 2) : Nat) : Int) := by rw [IntWalk.i64_in _ (by omega)]; omega
      have e3 : decide (((s.length : Nat) : Int) < ((J.length + 2 + (x.val.length + 2) : Nat) : Int)) = false := decide_eq_false (by omega)
      have e4 : (s.take (J.length + 2 + (x.val.length + 2))).drop (J.length + 2) = x.val ++ [13, 10] := by rw [← t3, List.drop_take]; congr 1; omega
      have e5 : s.take s.length = s := List.take_length
      have z1 : (0 : Int) ≤ ((J.length + 2 : Nat) : Int) := by omega
      have z2 : ((J.length + 2 : Nat) : Int) ≤ ((J.length + 2 + (x.val.length + 2) : Nat) : Int) := by omega
      have z3 : ((J.length + 2 + (x.val.length + 2) : Nat) : Int) ≤ ((s.length : Nat) : Int) := by omega
      have z4 : (0 : Int) ≤ ((J.length + 2 + (x.val.length + 2) : Nat) : Int) := by omega
      have g1 : ∀ n, jW n (flatG rcS cs) = true := fun n => wfL_iff (flat_wf rcS_wf' _ _)
      have g2 : ∀ n, jW n (flatG anSx az) = true := fun n => wfL_iff (flat_wf anSx_wf _ _)
      have g3 : ∀ n, jW n (flatG itSx ws) = true := fun n => wfL_iff (flat_wf itSx_wf _ _)
      have yv : x.val.length ≤ 9223372036854775805 := by omega
      (refine VT_ok hctr (rs := res8) true 400 _ _ _ ?_; simp (maxSteps := 1000000) only [VT, jf, jg, jZ, ja, jd, je, VC, qA, qB, qC, qD, qE, qF, qG, qH, qI, qJ, qK, qL, qM, qN, qO, qP, qQ, qR, qS, qT, qU, qV, qW, qX, qY, qZ, qe, qf, qg, qh, qj, qk, ql, qm, qn, qo, qp, qq, qt, qu, qv, ev, qw, qy, qz, zA, zB, zC, zD, zE, zF, zG, zH, zI, zJ, TE.sv, zK, zL, zM, ↓reduceIte, reduceCtorEq, Value.oneCell', Nat.reduceEqDiff, Nat.reduceAdd, Nat.reduceLT, Nat.reduceBEq, Nat.reduceSub, Nat.reduceLeDiff, zP, zQ, zR, zS, zT, zU, zV, zW, zX, zY, zZ, za, zb, zc, zd, ze, zf, zg, zh, zi, zj, zk, zl, zm, zn, zo, zp, zq, zr, zt, zu, zw, zx, zy, zz, cE, jA, jB, hap, killE, deadOf, rwE, cD, cO, jC, jD, jE, jF, jG, jH, jI, jJ, jK, jL, jM, jN, jO, jP, jQ, jR, jS, jT, jU, jV, jW, jX, jY, hP, hk, res8, kp8, lwC, rowKeyB, rowText, cond_true, cond_false, enG, rqE, rwE, zF, gwC, c2, p3, p0, p1, r0, r1, r2, r4, wf, wv, f0, f2, f3, f64, v64, v0, y1, y2, y3, y4, y5, y6, y7, g1, g2, g3, ub, e1, e2, e3, e4, e5, t4, z1, z2, z3, z4, yv, Int.toNat_natCast, Int.toNat_zero, Int.reduceToNat, Nat.zero_add, Nat.mul_one, Nat.zero_mul, Int.le_refl, beq_self_eq_true, bne_self_eq_false, Bool.not_true, Bool.not_false, Bool.and_self, Bool.true_and, Int.reduceLE, true_and, and_true, List.append_eq, List.cons_append, List.nil_append])
      (refine Run_drawD hctr (by rw [hP]; rfl) rs8_25 [] (ensure_type_of% (Cmp.of (by simp (maxSteps := 1000000) only [VC, qA, qB, qC, qD, qE, qF, qG, qH, qI, qJ, qK, qL, qM, qN, qO, qP, qQ, qR, qS, qT, qU, qV, qW, qX, qY, qZ, qe, qf, qg, qh, qj, qk, ql, qm, qn, qo, qp, qq, qt, qu, qv, ev, qw, qy, qz, zA, zB, zC, zD, zE, zF, zG, zH, zI, zJ, TE.sv, zK, zL, zM, ↓reduceIte, reduceCtorEq, Value.oneCell', Nat.reduceEqDiff, Nat.reduceAdd, Nat.reduceLT, Nat.reduceBEq, Nat.reduceSub, Nat.reduceLeDiff, zP, zQ, zR, zS, zT, zU, zV, zW, zX, zY, zZ, za, zb, zc, zd, ze, zf, zg, zh, zi, zj, zk, zl, zm, zn, zo, zp, zq, zr, zt, zu, zw, zx, zy, zz, cE, jA, jB, hap, killE, deadOf, rwE, cD, cO, jC, jD, jE, jF, jG, jH, jI, jJ, jK, jL, jM, jN, jO, jP, jQ, jR, jS, jT, jU, jV, jW, jX, jY, hP, lwC, rowKeyB, rowText, cond_true, cond_false, enG, rqE, rwE, zF, gwC, c2, p3, p0, p1, r0, r1, r2, r4, wf, wv, f0, f2, f3, f64, v64, v0, y1, y2, y3, y4, y5, y6, y7, g1, g2, g3, ub, e1, e2, e3, e4, e5, t4, z1, z2, z3, z4, yv, Int.toNat_natCast, Int.toNat_zero, Int.reduceToNat, Nat.zero_add, Nat.mul_one, Nat.zero_mul, Int.le_refl, beq_self_eq_true, bne_self_eq_false, Bool.not_true, Bool.not_false, Bool.and_self, Bool.true_and, Int.reduceLE, true_and, and_true, List.append_eq, List.cons_append, List.nil_append]; rfl)) "" Cmp.mk) (by kernel_rfl) (by kernel_rfl) (by first | exact lenB_one _ | kernel_rfl) (by kernel_rfl) (by rfl) (by rfl) (by first | exact firstN_self _ | rfl) (by rfl) (by simp (maxSteps := 1000000) only [VC, qA, qB, qC, qD, qE, qF, qG, qH, qI, qJ, qK, qL, qM, qN, qO, qP, qQ, qR, qS, qT, qU, qV, qW, qX, qY, qZ, qe, qf, qg, qh, qj, qk, ql, qm, qn, qo, qp, qq, qt, qu, qv, ev, qw, qy, qz, zA, zB, zC, zD, zE, zF, zG, zH, zI, zJ, TE.sv, zK, zL, zM, ↓reduceIte, reduceCtorEq, Value.oneCell', Nat.reduceEqDiff, Nat.reduceAdd, Nat.reduceLT, Nat.reduceBEq, Nat.reduceSub, Nat.reduceLeDiff, zP, zQ, zR, zS, zT, zU, zV, zW, zX, zY, zZ, za, zb, zc, zd, ze, zf, zg, zh, zi, zj, zk, zl, zm, zn, zo, zp, zq, zr, zt, zu, zw, zx, zy, zz, cE, jA, jB, hap, killE, deadOf, rwE, cD, cO, jC, jD, jE, jF, jG, jH, jI, jJ, jK, jL, jM, jN, jO, jP, jQ, jR, jS, jT, jU, jV, jW, jX, jY, hP, lwC, rowKeyB, rowText, cond_true, cond_false, enG, rqE, rwE, zF, gwC, c2, p3, p0, p1, r0, r1, r2, r4, wf, wv, f0, f2, f3, f64, v64, v0, y1, y2, y3, y4, y5, y6, y7, g1, g2, g3, ub, e1, e2, e3, e4, e5, t4, z1, z2, z3, z4, yv, Int.toNat_natCast, Int.toNat_zero, Int.reduceToNat, Nat.zero_add, Nat.mul_one, Nat.zero_mul, Int.le_refl, beq_self_eq_true, bne_self_eq_false, Bool.not_true, Bool.not_false, Bool.and_self, Bool.true_and, Int.reduceLE, true_and, and_true, List.append_eq, List.cons_append, List.nil_append]) ?_; refine VT_ok hctr (rs := res8) true 400 _ _ _ ?_; simp (maxSteps := 1000000) only [VT, jf, jg, jZ, ja, jd, je, VC, qA, qB, qC, qD, qE, qF, qG, qH, qI, qJ, qK, qL, qM, qN, qO, qP, qQ, qR, qS, qT, qU, qV, qW, qX, qY, qZ, qe, qf, qg, qh, qj, qk, ql, qm, qn, qo, qp, qq, qt, qu, qv, ev, qw, qy, qz, zA, zB, zC, zD, zE, zF, zG, zH, zI, zJ, TE.sv, zK, zL, zM, ↓reduceIte, reduceCtorEq, Value.oneCell', Nat.reduceEqDiff, Nat.reduceAdd, Nat.reduceLT, Nat.reduceBEq, Nat.reduceSub, Nat.reduceLeDiff, zP, zQ, zR, zS, zT, zU, zV, zW, zX, zY, zZ, za, zb, zc, zd, ze, zf, zg, zh, zi, zj, zk, zl, zm, zn, zo, zp, zq, zr, zt, zu, zw, zx, zy, zz, cE, jA, jB, hap, killE, deadOf, rwE, cD, cO, jC, jD, jE, jF, jG, jH, jI, jJ, jK, jL, jM, jN, jO, jP, jQ, jR, jS, jT, jU, jV, jW, jX, jY, hP, hk, res8, kp8, lwC, rowKeyB, rowText, cond_true, cond_false, enG, rqE, rwE, zF, gwC, c2, p3, p0, p1, r0, r1, r2, r4, wf, wv, f0, f2, f3, f64, v64, v0, y1, y2, y3, y4, y5, y6, y7, g1, g2, g3, ub, e1, e2, e3, e4, e5, t4, z1, z2, z3, z4, yv, Int.toNat_natCast, Int.toNat_zero, Int.reduceToNat, Nat.zero_add, Nat.mul_one, Nat.zero_mul, Int.le_refl, beq_self_eq_true, bne_self_eq_false, Bool.not_true, Bool.not_false, Bool.and_self, Bool.true_and, Int.reduceLE, true_and, and_true, List.append_eq, List.cons_append, List.nil_append])
      (refine Run_drawD hctr (by rw [hP]; rfl) rs8_28 [] (ensure_type_of% (Cmp.of (by simp (maxSteps := 1000000) only [VC, qA, qB, qC, qD, qE, qF, qG, qH, qI, qJ, qK, qL, qM, qN, qO, qP, qQ, qR, qS, qT, qU, qV, qW, qX, qY, qZ, qe, qf, qg, qh, qj, qk, ql, qm, qn, qo, qp, qq, qt, qu, qv, ev, qw, qy, qz, zA, zB, zC, zD, zE, zF, zG, zH, zI, zJ, TE.sv, zK, zL, zM, ↓reduceIte, reduceCtorEq, Value.oneCell', Nat.reduceEqDiff, Nat.reduceAdd, Nat.reduceLT, Nat.reduceBEq, Nat.reduceSub, Nat.reduceLeDiff, zP, zQ, zR, zS, zT, zU, zV, zW, zX, zY, zZ, za, zb, zc, zd, ze, zf, zg, zh, zi, zj, zk, zl, zm, zn, zo, zp, zq, zr, zt, zu, zw, zx, zy, zz, cE, jA, jB, hap, killE, deadOf, rwE, cD, cO, jC, jD, jE, jF, jG, jH, jI, jJ, jK, jL, jM, jN, jO, jP, jQ, jR, jS, jT, jU, jV, jW, jX, jY, hP, lwC, rowKeyB, rowText, cond_true, cond_false, enG, rqE, rwE, zF, gwC, c2, p3, p0, p1, r0, r1, r2, r4, wf, wv, f0, f2, f3, f64, v64, v0, y1, y2, y3, y4, y5, y6, y7, g1, g2, g3, ub, e1, e2, e3, e4, e5, t4, z1, z2, z3, z4, yv, Int.toNat_natCast, Int.toNat_zero, Int.reduceToNat, Nat.zero_add, Nat.mul_one, Nat.zero_mul, Int.le_refl, beq_self_eq_true, bne_self_eq_false, Bool.not_true, Bool.not_false, Bool.and_self, Bool.true_and, Int.reduceLE, true_and, and_true, List.append_eq, List.cons_append, List.nil_append]; rfl)) "" Cmp.mk) (by kernel_rfl) (by kernel_rfl) (by first | exact lenB_one _ | kernel_rfl) (by kernel_rfl) (by rfl) (by rfl) (by first | exact firstN_self _ | rfl) (by rfl) (by simp (maxSteps := 1000000) only [VC, qA, qB, qC, qD, qE, qF, qG, qH, qI, qJ, qK, qL, qM, qN, qO, qP, qQ, qR, qS, qT, qU, qV, qW, qX, qY, qZ, qe, qf, qg, qh, qj, qk, ql, qm, qn, qo, qp, qq, qt, qu, qv, ev, qw, qy, qz, zA, zB, zC, zD, zE, zF, zG, zH, zI, zJ, TE.sv, zK, zL, zM, ↓reduceIte, reduceCtorEq, Value.oneCell', Nat.reduceEqDiff, Nat.reduceAdd, Nat.reduceLT, Nat.reduceBEq, Nat.reduceSub, Nat.reduceLeDiff, zP, zQ, zR, zS, zT, zU, zV, zW, zX, zY, zZ, za, zb, zc, zd, ze, zf, zg, zh, zi, zj, zk, zl, zm, zn, zo, zp, zq, zr, zt, zu, zw, zx, zy, zz, cE, jA, jB, hap, killE, deadOf, rwE, cD, cO, jC, jD, jE, jF, jG, jH, jI, jJ, jK, jL, jM, jN, jO, jP, jQ, jR, jS, jT, jU, jV, jW, jX, jY, hP, lwC, rowKeyB, rowText, cond_true, cond_false, enG, rqE, rwE, zF, gwC, c2, p3, p0, p1, r0, r1, r2, r4, wf, wv, f0, f2, f3, f64, v64, v0, y1, y2, y3, y4, y5, y6, y7, g1, g2, g3, ub, e1, e2, e3, e4, e5, t4, z1, z2, z3, z4, yv, Int.toNat_natCast, Int.toNat_zero, Int.reduceToNat, Nat.zero_add, Nat.mul_one, Nat.zero_mul, Int.le_refl, beq_self_eq_true, bne_self_eq_false, Bool.not_true, Bool.not_false, Bool.and_self, Bool.true_and, Int.reduceLE, true_and, and_true, List.append_eq, List.cons_append, List.nil_append]) ?_; refine VT_ok hctr (rs := res8) true 400 _ _ _ ?_; simp (maxSteps := 1000000) only [VT, jf, jg, jZ, ja, jd, je, VC, qA, qB, qC, qD, qE, qF, qG, qH, qI, qJ, qK, qL, qM, qN, qO, qP, qQ, qR, qS, qT, qU, qV, qW, qX, qY, qZ, qe, qf, qg, qh, qj, qk, ql, qm, qn, qo, qp, qq, qt, qu, qv, ev, qw, qy, qz, zA, zB, zC, zD, zE, zF, zG, zH, zI, zJ, TE.sv, zK, zL, zM, ↓reduceIte, reduceCtorEq, Value.oneCell', Nat.reduceEqDiff, Nat.reduceAdd, Nat.reduceLT, Nat.reduceBEq, Nat.reduceSub, Nat.reduceLeDiff, zP, zQ, zR, zS, zT, zU, zV, zW, zX, zY, zZ, za, zb, zc, zd, ze, zf, zg, zh, zi, zj, zk, zl, zm, zn, zo, zp, zq, zr, zt, zu, zw, zx, zy, zz, cE, jA, jB, hap, killE, deadOf, rwE, cD, cO, jC, jD, jE, jF, jG, jH, jI, jJ, jK, jL, jM, jN, jO, jP, jQ, jR, jS, jT, jU, jV, jW, jX, jY, hP, hk, res8, kp8, lwC, rowKeyB, rowText, cond_true, cond_false, enG, rqE, rwE, zF, gwC, c2, p3, p0, p1, r0, r1, r2, r4, wf, wv, f0, f2, f3, f64, v64, v0, y1, y2, y3, y4, y5, y6, y7, g1, g2, g3, ub, e1, e2, e3, e4, e5, t4, z1, z2, z3, z4, yv, Int.toNat_natCast, Int.toNat_zero, Int.reduceToNat, Nat.zero_add, Nat.mul_one, Nat.zero_mul, Int.le_refl, beq_self_eq_true, bne_self_eq_false, Bool.not_true, Bool.not_false, Bool.and_self, Bool.true_and, Int.reduceLE, true_and, and_true, List.append_eq, List.cons_append, List.nil_append])
      repeat (refine ⟨by first | omega | assumption, ?_⟩)
      have hJ' := hJ ⟨i + 1, by omega⟩ (slW false ws.length m (i + 1) (restF false ws (i + 1))) (by show ws.length - (i + 1) < ws.length - i; omega) (fun d v h => h)
      refine Run_keepN (f := fun c => c) (enK := enG false cs az ws) (slK := slW false ws.length m (i + 1) (restF false ws (i + 1))) ⟨fun q hq => rfl, by rw [dn, hn0]; exact Nat.zero_le _⟩ (fun _ _ _ _ h => h) ?_ ?_ hJ'
      · refine ⟨⟨_, rfl, fun ρ => rfl, ?_⟩, ⟨_, rfl, fun ρ => rfl, flat_wf rcS_wf' _ _⟩, ⟨_, rfl, fun ρ => rfl, flat_wf anSx_wf _ _⟩, ⟨_, rfl, fun ρ => rfl, flat_wf itSx_wf _ _⟩, trivial⟩
        intro y hy
        simp only [rqE, List.mem_cons, List.not_mem_nil, or_false] at hy
        rcases hy with rfl | rfl | rfl | rfl | rfl | rfl | rfl | rfl | rfl | rfl | rfl <;> first | exact True.intro | exact (Nat.succ_lt_succ (Nat.succ_pos _))
      · refine ⟨⟨?_, _, rfl, fun ρ => rfl⟩, ⟨?_, _, rfl, fun ρ => rfl⟩, ⟨?_, _, rfl, fun ρ => rfl⟩, ⟨?_, _, rfl, fun ρ => rfl⟩, ⟨?_, _, rfl, fun ρ => rfl⟩, ⟨?_, _, rfl, fun ρ => rfl⟩, trivial⟩
        all_goals simp [SV.wf, SC.wf, enG]
    · obtain rfl : i = ws.length := by omega
      have c2 : decide (((ws.length : Nat) : Int) < ((ws.length : Nat) : Int)) = false := decide_eq_false (by omega)
      rw [hend]
      (refine VT_ok hctr (rs := res8) true 300 _ _ _ ?_; simp (maxSteps := 1000000) only [VT, jf, jg, jZ, ja, jd, je, VC, qA, qB, qC, qD, qE, qF, qG, qH, qI, qJ, qK, qL, qM, qN, qO, qP, qQ, qR, qS, qT, qU, qV, qW, qX, qY, qZ, qe, qf, qg, qh, qj, qk, ql, qm, qn, qo, qp, qq, qt, qu, qv, ev, qw, qy, qz, zA, zB, zC, zD, zE, zF, zG, zH, zI, zJ, TE.sv, zK, zL, zM, ↓reduceIte, reduceCtorEq, Value.oneCell', Nat.reduceEqDiff, Nat.reduceAdd, Nat.reduceLT, Nat.reduceBEq, Nat.reduceSub, Nat.reduceLeDiff, zP, zQ, zR, zS, zT, zU, zV, zW, zX, zY, zZ, za, zb, zc, zd, ze, zf, zg, zh, zi, zj, zk, zl, zm, zn, zo, zp, zq, zr, zt, zu, zw, zx, zy, zz, cE, jA, jB, hap, killE, deadOf, rwE, cD, cO, jC, jD, jE, jF, jG, jH, jI, jJ, jK, jL, jM, jN, jO, jP, jQ, jR, jS, jT, jU, jV, jW, jX, jY, hP, hk, res8, kp8, slW, enG, rwE, rqE, gwC, lwC, rowKeyB, rowText, cond_true, cond_false, c2])
      refine hX rfl rfl ?_
      have hP := hP0; have hk := hk0; have hctr := hctr0
      (refine VT_ok hctr (rs := res8) true 300 _ _ _ ?_; simp (maxSteps := 1000000) only [VT, jf, jg, jZ, ja, jd, je, VC, qA, qB, qC, qD, qE, qF, qG, qH, qI, qJ, qK, qL, qM, qN, qO, qP, qQ, qR, qS, qT, qU, qV, qW, qX, qY, qZ, qe, qf, qg, qh, qj, qk, ql, qm, qn, qo, qp, qq, qt, qu, qv, ev, qw, qy, qz, zA, zB, zC, zD, zE, zF, zG, zH, zI, zJ, TE.sv, zK, zL, zM, ↓reduceIte, reduceCtorEq, Value.oneCell', Nat.reduceEqDiff, Nat.reduceAdd, Nat.reduceLT, Nat.reduceBEq, Nat.reduceSub, Nat.reduceLeDiff, zP, zQ, zR, zS, zT, zU, zV, zW, zX, zY, zZ, za, zb, zc, zd, ze, zf, zg, zh, zi, zj, zk, zl, zm, zn, zo, zp, zq, zr, zt, zu, zw, zx, zy, zz, cE, jA, jB, hap, killE, deadOf, rwE, cD, cO, jC, jD, jE, jF, jG, jH, jI, jJ, jK, jL, jM, jN, jO, jP, jQ, jR, jS, jT, jU, jV, jW, jX, jY, hP, hk, res8, kp8, gwC, lwC, rowKeyB, rowText, cond_true, cond_false, b_end, beq_self_eq_true])
      exact fin _
end Go.Proofs.YtlbbldcfkalhlaaGreatDoor
