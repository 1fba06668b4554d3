/- The document's Split, walked. Printed by gen_edoc8.py. -/
import Derived.Test.YtlaagebdbcmckaaGreatDoorCEdoc1
import Derived.Test.YtlaagebdbcmckaaGreatDoorCEparse
import Derived.Test.YtlaagebdbcmckaaGreatDoorBM
namespace Go.Proofs.YtlaagebdbcmckaaGreatDoor
set_option linter.unusedSimpArgs false
set_option linter.unusedVariables false
set_option linter.unusedSimpArgs false
set_option linter.unusedVariables false
set_option maxHeartbeats 8000000
open Go.RowKit
set_option maxRecDepth 100000
def splD : List UInt8 → List UInt8 → List (List UInt8) → List (List UInt8)
  | [], cur, out => if cur = [] then out else out ++ [cur]
  | c :: l, cur, out => if c = 32 then splD l [] (if cur = [] then out else out ++ [cur]) else splD l (cur ++ [c]) out
def slDs (s : List UInt8) (i fr n : Nat) : List (Nat × SV) := [(5, .c (.i .i64 (i : Int))), (4, .c (.i .i64 (fr : Int))), (3, .c (.rw 0 n)), (0, .c (.s s))]
theorem word_app {D : Cx} {nt : Nat} {sl : List (Nat × SV)} {k : List KI} {dst : Option Nat} {ty : TypeId} {pos : String} {af : Array Edge} {all r : List Oper} {x y : Operand} {l : List (List UInt8)} {u : List UInt8} (hP : D.P = Tryz.prog) (hn0 : D.n0 = 0) (hl : l.length ≤ 1000000000)
    (hx : ev sl x = some (.c (.rw 0 l.length))) (hy : ev sl y = some (.c (.sl 1 0 1 1))) (hd : ∀ d, dst = some d → d < nt)
    (hK : ∀ E, Run D (.ops all r :: k) nt (jN dst (.c (.rw 2 (l.length + 1))) sl) [E, ⟨(9, 0, whole), [.s u], true⟩, wdE (l ++ [u])]) :
    Run D (.ops all (⟨dst, .call ⟨.builtin .append, #[x, y], #[24, 24]⟩, ty, pos, af, none⟩ :: r) :: k) nt sl [wdE l, ⟨(9, 0, whole), [.s u], true⟩] := by
  obtain ⟨i0, hi', hz0, hz1, hz2⟩ := info_parts infoStr
  refine append_op (X := .rw 0 l.length) (Y := .sl 1 0 1 1) (o := some 0) (n := l.length) (m := 1) (z := 1) (bts := 16) (cells := l.map SC.s) (news := [.s u]) (e := 9) (by rw [hP]; exact Tryz.underlying24) (by rw [hP]; exact hi') hz0 hz1 hz2 rfl Nat.zero_lt_one (by show ¬ ((9 : Nat) = DEAD); decide) (.some rfl) hx hy (src_sl (c := 1) (o := 0) (L := 1) rfl rfl) rfl rfl (fun pr y hy => by simp only [List.mem_singleton] at hy; subst hy; trivial) (by omega) (by omega) (by rw [hn0]; exact Nat.zero_le _) rfl hd ?_
  have hr : rwE 9 1 (l.length + 1) (l.map SC.s ++ [.s u]) = wdE (l ++ [u]) := by simp [wdE]
  rw [hr]
  exact hK _
theorem dsplit_w (s : List UInt8) (hs : s.length ≤ 500000000) (w : World) : Calls Tryz.prog 22 #[.string ⟨s.toArray⟩] w fun e w' => ∃ r, RowOk w.heap.size w' r 9 1 (splD s [] []).length ((splD s [] []).map encW) ∧ e = .returned (rwOf r (splD s [] []).length) ∧ Below w.heap.size w w' := by
  refine calls_of_Run Tryz.func22 rfl kp22 (S := Non) (ρ := fun _ => reOf 0) (en := []) [.c (.s s)] Tryz.ntmps22 (At.nil _ _ _) (by simp [SV.wf, SC.wf]) (by simp) ?_
  intro C hC hP hk
  have hctr := dG0_ok hP
  have hn0 : C.n0 = 0 := by rw [hC]; rfl
  have fin : ∀ W, splD s [] [] = W → Fin C res22 (.c (.rw 0 W.length)) [wdE W] := fun W hW => by
    subst hW
    refine Fin_cx (v := .c (.rw 0 (splD s [] []).length)) hC hres22 fun ρ w' hw _ _ => ?_
    have h1 := RowOk.of (N := 0) (n := (splD s [] []).length) (z := 1) (e := 9) (cells := (splD s [] []).map SC.s) hw (by rw [hC]; rfl) rfl (by decide)
    have hup := hw.up
    rw [hC] at hup h1
    have hcw : dens ρ ((splD s [] []).map SC.s) = (splD s [] []).map encW := by simp [dens, SC.den, encW, Function.comp_def]
    rw [hcw] at h1
    exact ⟨ρ 0, h1, rfl, hup.to_below⟩
  (refine VT_ok hctr (rs := res22) true 300 _ _ _ ?_; simp (maxSteps := 1000000) only [VT, jf, jg, jZ, ja, jd, je, VC, qA, qB, qC, qD, qE, qF, qG, qH, qI, qJ, qK, qL, qM, qN, qO, qP, qQ, qR, qS, qT, qU, qV, qW, qX, qY, qZ, qe, qf, qg, qh, qj, qk, ql, qm, qn, qo, qp, qq, q0t, qu, qv, ev, qw, qy, qz, zA, zB, zC, zD, zE, zF, zG, zH, zI, zJ, TE.sv, zK, zL, zM, ↓reduceIte, reduceCtorEq, Value.oneCell', Nat.reduceEqDiff, Nat.reduceAdd, Nat.reduceLT, Nat.reduceBEq, Nat.reduceSub, Nat.reduceLeDiff, zP, zQ, zR, zS, zT, zU, zV, zW, zX, zY, zZ, za, zb, zc, zd, ze, zf, zg, zh, zi, zj, zk, zl, zm, zn, zo, zp, zq, zr, zt, zu, zw, zx, zy, zz, cE, jA, jB, hap, killE, deadOf, rwE, cD, cO, jC, jD, jE, jF, jG, jH, jI, jJ, jK, jL, jM, jN, jO, jP, jQ, jR, jS, jT, jU, jV, jW, jX, jY, hP, hk, res22, kp22, dG0, slDs, wdE, rwE, Int.toNat_natCast, Nat.reduceMul, Nat.reduceLeDiff, if_true, Nat.reduceAdd, Nat.mul_one])
  refine Run_nilrowG true (en' := []) (sl' := slDs s 0 0 0) (9, 0, rowP 1 0 0) rfl (fun _ => ⟨rfl, .inr ⟨rfl, rfl, rfl⟩⟩) (fun _ => by show ¬ ((9 : Nat) = DEAD); decide) trivial ?_ ?_
  · refine ⟨⟨⟨_, rfl, fun ρ h => rfl⟩, ?_⟩, ⟨⟨_, rfl, fun ρ h => rfl⟩, ?_⟩, ⟨⟨_, rfl, fun ρ h => ?_⟩, ?_⟩, ⟨⟨_, rfl, fun ρ h => rfl⟩, ?_⟩, trivial⟩
    rotate_left 2
    · have h : (ρ 0).nl = some none := h
      simp only [SV.den, SC.den, rwOf_off h]
    all_goals simp [SV.wf, SC.wf, zG]
  refine Run_loopP (ι := { y : Nat × Nat × List (List UInt8) // y.1 ≤ s.length + 1 ∧ y.2.1 ≤ y.1 ∧ y.2.2.length ≤ y.1 ∧ (y.1 ≤ s.length → splD (s.drop y.1) ((s.take y.1).drop y.2.1) y.2.2 = splD s [] []) ∧ (y.1 = s.length + 1 → y.2.2 = splD s [] []) }) (fun y => slDs s y.1.1 y.1.2.1 y.1.2.2.length) (fun y => [wdE y.1.2.2]) (fun y => s.length + 2 - y.1.1) ⟨(0, 0, []), by simp only; omega, Nat.le_refl _, Nat.le_refl _, fun _ => rfl, by simp only; omega⟩ (sub_mk ⟨rfl, rfl, rfl, rfl, trivial⟩) rfl ?_
  rintro ⟨⟨i, fr, out⟩, hi, hfr, hol, hall, hend⟩ D dP dS dw dn dr dk ddf dPan dRet hX hJ
  have hP0 := hP; have hk0 := hk; have hctr0 := hctr
  have hP : D.P = Tryz.prog := by rw [dP]; exact hP0
  have hk : D.kp = kp22 := by rw [dk]; exact hk0
  have hctr : CtrOk D dG0 := dG0_ok hP
  simp only at hi hfr hol hall hend
  show Run D _ _ (slDs s i fr out.length) [wdE out]
  by_cases hin : i ≤ s.length
  · have q1 : decide ((i : Int) ≤ (s.length : Int)) = true := decide_eq_true (by omega)
    have hall := hall hin
    have p0 : (0 : Int) ≤ (i : Int) := by omega
    have p3 : IntKind.i64.wrap ((i : Int) + 1) = ((i + 1 : Nat) : Int) := by rw [IntWalk.i64_in _ (by omega)]; rfl
    have p4 : (0 : Int) ≤ (fr : Int) := by omega
    have p5 : (fr : Int) ≤ (i : Int) := by omega
    have p6 : (i : Int) ≤ (s.length : Int) := by omega
    -- a word ends here: what is told next
    have nx : ∀ o2, (i < s.length → splD (s.drop (i + 1)) [] o2 = splD s [] []) → (i = s.length → o2 = splD s [] []) → o2.length ≤ out.length + 1 → ∀ s', sub (slDs s (i + 1) (i + 1) o2.length) s' → Run D [] 35 s' [wdE o2] := fun o2 h1 h2 h3 s' hs' => by
      refine hJ ⟨(i + 1, i + 1, o2), by simp only; omega, Nat.le_refl _, by simp only; omega, fun h => ?_, fun h => h2 (by simp only at h; omega)⟩ s' (by show s.length + 2 - (i + 1) < s.length + 2 - i; omega) hs'
      simp only at h
      rw [← h1 (by omega), List.drop_take]; simp
    have hin2 : (i < s.length ∧ ∃ x, s[i]? = some x ∧ x ≠ 32) ∨ (¬ (i < s.length ∧ ∃ x, s[i]? = some x ∧ x ≠ 32)) := Classical.em _
    rcases hin2 with ⟨hlt, x, hx, hx32⟩ | hno
    · have c1 : decide ((i : Int) < (s.length : Int)) = true := decide_eq_true (by omega)
      have hgx : s.getD i 0 = x := by rw [List.getD_eq_getElem?_getD, hx]; rfl
      have c2 : ((x.toNat : Int) != 32) = true := by
        rw [bne_iff_ne]; intro h; exact hx32 (UInt8.toNat_inj.1 (by have : (32 : UInt8).toNat = 32 := rfl; omega))
      have p1 : (i : Int) < (s.length : Int) := by omega
      (refine VT_ok hctr (rs := res22) true 300 _ _ _ ?_; simp (maxSteps := 1000000) only [VT, jf, jg, jZ, ja, jd, je, VC, qA, qB, qC, qD, qE, qF, qG, qH, qI, qJ, qK, qL, qM, qN, qO, qP, qQ, qR, qS, qT, qU, qV, qW, qX, qY, qZ, qe, qf, qg, qh, qj, qk, ql, qm, qn, qo, qp, qq, q0t, qu, qv, ev, qw, qy, qz, zA, zB, zC, zD, zE, zF, zG, zH, zI, zJ, TE.sv, zK, zL, zM, ↓reduceIte, reduceCtorEq, Value.oneCell', Nat.reduceEqDiff, Nat.reduceAdd, Nat.reduceLT, Nat.reduceBEq, Nat.reduceSub, Nat.reduceLeDiff, zP, zQ, zR, zS, zT, zU, zV, zW, zX, zY, zZ, za, zb, zc, zd, ze, zf, zg, zh, zi, zj, zk, zl, zm, zn, zo, zp, zq, zr, zt, zu, zw, zx, zy, zz, cE, jA, jB, hap, killE, deadOf, rwE, cD, cO, jC, jD, jE, jF, jG, jH, jI, jJ, jK, jL, jM, jN, jO, jP, jQ, jR, jS, jT, jU, jV, jW, jX, jY, hP, hk, res22, kp22, dG0, slDs, wdE, rwE, Int.toNat_natCast, Nat.reduceMul, Nat.reduceLeDiff, if_true, Nat.reduceAdd, Nat.mul_one, q1, p0, p1, p3, c1, c2, hgx])
      refine hJ ⟨(i + 1, fr, out), by simp only; omega, by simp only; omega, by simp only; omega, fun _ => ?_, fun h => by simp only at h; omega⟩ _ (by show s.length + 2 - (i + 1) < s.length + 2 - i; omega) (sub_mk ⟨rfl, rfl, rfl, rfl, trivial⟩)
      have hd : s.drop i = x :: s.drop (i + 1) := by
        rw [List.drop_eq_getElem_cons hlt]; congr 1
        exact (List.getElem?_eq_some_iff.1 hx).2
      rw [hd, splD, if_neg hx32] at hall
      rw [← hall]
      have htk : s.take (i + 1) = s.take i ++ [x] := by rw [List.take_add_one, hx]; rfl
      simp only [htk]
      rw [List.drop_append_of_le_length (by rw [List.length_take]; omega)]
    · -- the facts of both ways here
      have go : ∀ (o2 : List (List UInt8)), o2 = (if (s.take i).drop fr = [] then out else out ++ [(s.take i).drop fr]) → ((i < s.length → splD (s.drop (i + 1)) [] o2 = splD s [] []) ∧ (i = s.length → o2 = splD s [] [])) := fun o2 ho => by
        refine ⟨fun hlt => ?_, fun he => ?_⟩
        · have hd := List.drop_eq_getElem_cons hlt
          have h32 : s[i] = 32 := Decidable.byContradiction fun h => hno ⟨hlt, s[i], List.getElem?_eq_getElem hlt, h⟩
          rw [hd, splD, if_pos h32] at hall
          rw [ho]; exact hall
        · rw [List.drop_of_length_le (by omega), splD] at hall
          rw [ho]; exact hall
      have hcur : ((s.take i).drop fr = []) ↔ i = fr := by
        rw [List.drop_eq_nil_iff, List.length_take]; omega
      have cc : (decide ((i : Int) < (s.length : Int)) = false) ∨ (decide ((i : Int) < (s.length : Int)) = true ∧ (i : Int) < (s.length : Int) ∧ ((((s.getD i 0).toNat : Nat) : Int) != 32) = false) := by
        by_cases hlt : i < s.length
        · right
          refine ⟨decide_eq_true (by omega), by omega, ?_⟩
          have h32 : s[i] = 32 := Decidable.byContradiction fun h => hno ⟨hlt, s[i], List.getElem?_eq_getElem hlt, h⟩
          rw [List.getD_eq_getElem?_getD, List.getElem?_eq_getElem hlt, Option.getD_some, h32]; rfl
        · left; exact decide_eq_false (by omega)
      rcases cc with c1 | ⟨c1, p1, c2⟩
      · by_cases hfi : fr < i
        · have q2 : decide ((fr : Int) < (i : Int)) = true := decide_eq_true (by omega)
          have hg := go (out ++ [(s.take i).drop fr]) (by rw [if_neg (fun h => by have := hcur.1 h; omega)])
          (refine VT_ok hctr (rs := res22) true 300 _ _ _ ?_; simp (maxSteps := 1000000) only [VT, jf, jg, jZ, ja, jd, je, VC, qA, qB, qC, qD, qE, qF, qG, qH, qI, qJ, qK, qL, qM, qN, qO, qP, qQ, qR, qS, qT, qU, qV, qW, qX, qY, qZ, qe, qf, qg, qh, qj, qk, ql, qm, qn, qo, qp, qq, q0t, qu, qv, ev, qw, qy, qz, zA, zB, zC, zD, zE, zF, zG, zH, zI, zJ, TE.sv, zK, zL, zM, ↓reduceIte, reduceCtorEq, Value.oneCell', Nat.reduceEqDiff, Nat.reduceAdd, Nat.reduceLT, Nat.reduceBEq, Nat.reduceSub, Nat.reduceLeDiff, zP, zQ, zR, zS, zT, zU, zV, zW, zX, zY, zZ, za, zb, zc, zd, ze, zf, zg, zh, zi, zj, zk, zl, zm, zn, zo, zp, zq, zr, zt, zu, zw, zx, zy, zz, cE, jA, jB, hap, killE, deadOf, rwE, cD, cO, jC, jD, jE, jF, jG, jH, jI, jJ, jK, jL, jM, jN, jO, jP, jQ, jR, jS, jT, jU, jV, jW, jX, jY, hP, hk, res22, kp22, dG0, slDs, wdE, rwE, Int.toNat_natCast, Nat.reduceMul, Nat.reduceLeDiff, if_true, Nat.reduceAdd, Nat.mul_one, q1, p0, p3, p4, p5, p6, q2, c1])
          repeat (refine ⟨by first | decide | omega | exact ⟨by omega, by omega, by omega⟩, ?_⟩)
          refine word_app (l := out) (u := (s.take i).drop fr) hP (by rw [dn, hn0]) (by omega) rfl rfl (by simp) fun E => ?_
          (refine VT_ok hctr (rs := res22) true 300 _ _ _ ?_; simp (maxSteps := 1000000) only [VT, jf, jg, jZ, ja, jd, je, VC, qA, qB, qC, qD, qE, qF, qG, qH, qI, qJ, qK, qL, qM, qN, qO, qP, qQ, qR, qS, qT, qU, qV, qW, qX, qY, qZ, qe, qf, qg, qh, qj, qk, ql, qm, qn, qo, qp, qq, q0t, qu, qv, ev, qw, qy, qz, zA, zB, zC, zD, zE, zF, zG, zH, zI, zJ, TE.sv, zK, zL, zM, ↓reduceIte, reduceCtorEq, Value.oneCell', Nat.reduceEqDiff, Nat.reduceAdd, Nat.reduceLT, Nat.reduceBEq, Nat.reduceSub, Nat.reduceLeDiff, zP, zQ, zR, zS, zT, zU, zV, zW, zX, zY, zZ, za, zb, zc, zd, ze, zf, zg, zh, zi, zj, zk, zl, zm, zn, zo, zp, zq, zr, zt, zu, zw, zx, zy, zz, cE, jA, jB, hap, killE, deadOf, rwE, cD, cO, jC, jD, jE, jF, jG, jH, jI, jJ, jK, jL, jM, jN, jO, jP, jQ, jR, jS, jT, jU, jV, jW, jX, jY, hP, hk, res22, kp22, dG0, slDs, wdE, rwE, Int.toNat_natCast, Nat.reduceMul, Nat.reduceLeDiff, if_true, Nat.reduceAdd, Nat.mul_one, p3])
          have hf : ∀ s', sub [(5, .c (.i .i64 ((i + 1 : Nat) : Int))), (4, .c (.i .i64 ((i + 1 : Nat) : Int))), (3, .c (.rw 2 (out.length + 1))), (0, .c (.s s))] s' → Run D [] 35 s' [E, ⟨(9, 0, whole), [.s ((s.take i).drop fr)], true⟩, wdE (out ++ [(s.take i).drop fr])] := fun s' hs' => by
            refine Run_less hs' ?_
            have hJ' := nx (out ++ [(s.take i).drop fr]) hg.1 hg.2 (by simp) _ (fun d v h => h)
            refine Run_keepN (f := fun _ => 2) (enK := [wdE (out ++ [(s.take i).drop fr])]) (slK := slDs s (i + 1) (i + 1) (out ++ [(s.take i).drop fr]).length) ⟨fun q hq => absurd hq (by rw [dn, hn0]; exact Nat.not_lt_zero _), by rw [dn, hn0]; exact Nat.zero_le _⟩ (fun p q hp hq _ => ?_) ?_ ?_ hJ'
            · have hp : p < 1 := hp
              have hq : q < 1 := hq
              omega
            · refine ⟨⟨_, rfl, fun ρ => by show dens _ ((out ++ [(s.take i).drop fr]).map SC.s) = dens ρ ((out ++ [(s.take i).drop fr]).map SC.s); rw [st_den, st_den], st_wf _ _⟩, trivial⟩
            · refine ⟨⟨?_, _, rfl, fun ρ => rfl⟩, ⟨?_, _, rfl, fun ρ => rfl⟩, ⟨?_, _, rfl, fun ρ => ?_⟩, ⟨?_, _, rfl, fun ρ => rfl⟩, trivial⟩
              all_goals simp [SV.wf, SC.wf, SV.den, SC.den]
          exact hf _ (sub_mk ⟨rfl, rfl, rfl, rfl, trivial⟩)
        · have q2 : decide ((fr : Int) < (i : Int)) = false := decide_eq_false (by omega)
          have hg := go out (by rw [if_pos (hcur.2 (by omega))])
          (refine VT_ok hctr (rs := res22) true 300 _ _ _ ?_; simp (maxSteps := 1000000) only [VT, jf, jg, jZ, ja, jd, je, VC, qA, qB, qC, qD, qE, qF, qG, qH, qI, qJ, qK, qL, qM, qN, qO, qP, qQ, qR, qS, qT, qU, qV, qW, qX, qY, qZ, qe, qf, qg, qh, qj, qk, ql, qm, qn, qo, qp, qq, q0t, qu, qv, ev, qw, qy, qz, zA, zB, zC, zD, zE, zF, zG, zH, zI, zJ, TE.sv, zK, zL, zM, ↓reduceIte, reduceCtorEq, Value.oneCell', Nat.reduceEqDiff, Nat.reduceAdd, Nat.reduceLT, Nat.reduceBEq, Nat.reduceSub, Nat.reduceLeDiff, zP, zQ, zR, zS, zT, zU, zV, zW, zX, zY, zZ, za, zb, zc, zd, ze, zf, zg, zh, zi, zj, zk, zl, zm, zn, zo, zp, zq, zr, zt, zu, zw, zx, zy, zz, cE, jA, jB, hap, killE, deadOf, rwE, cD, cO, jC, jD, jE, jF, jG, jH, jI, jJ, jK, jL, jM, jN, jO, jP, jQ, jR, jS, jT, jU, jV, jW, jX, jY, hP, hk, res22, kp22, dG0, slDs, wdE, rwE, Int.toNat_natCast, Nat.reduceMul, Nat.reduceLeDiff, if_true, Nat.reduceAdd, Nat.mul_one, q1, p0, p3, p4, p5, p6, q2, c1])
          exact nx out hg.1 hg.2 (by omega) _ (sub_mk ⟨rfl, rfl, rfl, rfl, trivial⟩)
      · by_cases hfi : fr < i
        · have q2 : decide ((fr : Int) < (i : Int)) = true := decide_eq_true (by omega)
          have hg := go (out ++ [(s.take i).drop fr]) (by rw [if_neg (fun h => by have := hcur.1 h; omega)])
          (refine VT_ok hctr (rs := res22) true 300 _ _ _ ?_; simp (maxSteps := 1000000) only [VT, jf, jg, jZ, ja, jd, je, VC, qA, qB, qC, qD, qE, qF, qG, qH, qI, qJ, qK, qL, qM, qN, qO, qP, qQ, qR, qS, qT, qU, qV, qW, qX, qY, qZ, qe, qf, qg, qh, qj, qk, ql, qm, qn, qo, qp, qq, q0t, qu, qv, ev, qw, qy, qz, zA, zB, zC, zD, zE, zF, zG, zH, zI, zJ, TE.sv, zK, zL, zM, ↓reduceIte, reduceCtorEq, Value.oneCell', Nat.reduceEqDiff, Nat.reduceAdd, Nat.reduceLT, Nat.reduceBEq, Nat.reduceSub, Nat.reduceLeDiff, zP, zQ, zR, zS, zT, zU, zV, zW, zX, zY, zZ, za, zb, zc, zd, ze, zf, zg, zh, zi, zj, zk, zl, zm, zn, zo, zp, zq, zr, zt, zu, zw, zx, zy, zz, cE, jA, jB, hap, killE, deadOf, rwE, cD, cO, jC, jD, jE, jF, jG, jH, jI, jJ, jK, jL, jM, jN, jO, jP, jQ, jR, jS, jT, jU, jV, jW, jX, jY, hP, hk, res22, kp22, dG0, slDs, wdE, rwE, Int.toNat_natCast, Nat.reduceMul, Nat.reduceLeDiff, if_true, Nat.reduceAdd, Nat.mul_one, q1, p0, p3, p4, p5, p6, q2, c1, p1, c2])
          repeat (refine ⟨by first | decide | omega | exact ⟨by omega, by omega, by omega⟩, ?_⟩)
          refine word_app (l := out) (u := (s.take i).drop fr) hP (by rw [dn, hn0]) (by omega) rfl rfl (by simp) fun E => ?_
          (refine VT_ok hctr (rs := res22) true 300 _ _ _ ?_; simp (maxSteps := 1000000) only [VT, jf, jg, jZ, ja, jd, je, VC, qA, qB, qC, qD, qE, qF, qG, qH, qI, qJ, qK, qL, qM, qN, qO, qP, qQ, qR, qS, qT, qU, qV, qW, qX, qY, qZ, qe, qf, qg, qh, qj, qk, ql, qm, qn, qo, qp, qq, q0t, qu, qv, ev, qw, qy, qz, zA, zB, zC, zD, zE, zF, zG, zH, zI, zJ, TE.sv, zK, zL, zM, ↓reduceIte, reduceCtorEq, Value.oneCell', Nat.reduceEqDiff, Nat.reduceAdd, Nat.reduceLT, Nat.reduceBEq, Nat.reduceSub, Nat.reduceLeDiff, zP, zQ, zR, zS, zT, zU, zV, zW, zX, zY, zZ, za, zb, zc, zd, ze, zf, zg, zh, zi, zj, zk, zl, zm, zn, zo, zp, zq, zr, zt, zu, zw, zx, zy, zz, cE, jA, jB, hap, killE, deadOf, rwE, cD, cO, jC, jD, jE, jF, jG, jH, jI, jJ, jK, jL, jM, jN, jO, jP, jQ, jR, jS, jT, jU, jV, jW, jX, jY, hP, hk, res22, kp22, dG0, slDs, wdE, rwE, Int.toNat_natCast, Nat.reduceMul, Nat.reduceLeDiff, if_true, Nat.reduceAdd, Nat.mul_one, p3])
          have hf : ∀ s', sub [(5, .c (.i .i64 ((i + 1 : Nat) : Int))), (4, .c (.i .i64 ((i + 1 : Nat) : Int))), (3, .c (.rw 2 (out.length + 1))), (0, .c (.s s))] s' → Run D [] 35 s' [E, ⟨(9, 0, whole), [.s ((s.take i).drop fr)], true⟩, wdE (out ++ [(s.take i).drop fr])] := fun s' hs' => by
            refine Run_less hs' ?_
            have hJ' := nx (out ++ [(s.take i).drop fr]) hg.1 hg.2 (by simp) _ (fun d v h => h)
            refine Run_keepN (f := fun _ => 2) (enK := [wdE (out ++ [(s.take i).drop fr])]) (slK := slDs s (i + 1) (i + 1) (out ++ [(s.take i).drop fr]).length) ⟨fun q hq => absurd hq (by rw [dn, hn0]; exact Nat.not_lt_zero _), by rw [dn, hn0]; exact Nat.zero_le _⟩ (fun p q hp hq _ => ?_) ?_ ?_ hJ'
            · have hp : p < 1 := hp
              have hq : q < 1 := hq
              omega
            · refine ⟨⟨_, rfl, fun ρ => by show dens _ ((out ++ [(s.take i).drop fr]).map SC.s) = dens ρ ((out ++ [(s.take i).drop fr]).map SC.s); rw [st_den, st_den], st_wf _ _⟩, trivial⟩
            · refine ⟨⟨?_, _, rfl, fun ρ => rfl⟩, ⟨?_, _, rfl, fun ρ => rfl⟩, ⟨?_, _, rfl, fun ρ => ?_⟩, ⟨?_, _, rfl, fun ρ => rfl⟩, trivial⟩
              all_goals simp [SV.wf, SC.wf, SV.den, SC.den]
          exact hf _ (sub_mk ⟨rfl, rfl, rfl, rfl, trivial⟩)
        · have q2 : decide ((fr : Int) < (i : Int)) = false := decide_eq_false (by omega)
          have hg := go out (by rw [if_pos (hcur.2 (by omega))])
          (refine VT_ok hctr (rs := res22) true 300 _ _ _ ?_; simp (maxSteps := 1000000) only [VT, jf, jg, jZ, ja, jd, je, VC, qA, qB, qC, qD, qE, qF, qG, qH, qI, qJ, qK, qL, qM, qN, qO, qP, qQ, qR, qS, qT, qU, qV, qW, qX, qY, qZ, qe, qf, qg, qh, qj, qk, ql, qm, qn, qo, qp, qq, q0t, qu, qv, ev, qw, qy, qz, zA, zB, zC, zD, zE, zF, zG, zH, zI, zJ, TE.sv, zK, zL, zM, ↓reduceIte, reduceCtorEq, Value.oneCell', Nat.reduceEqDiff, Nat.reduceAdd, Nat.reduceLT, Nat.reduceBEq, Nat.reduceSub, Nat.reduceLeDiff, zP, zQ, zR, zS, zT, zU, zV, zW, zX, zY, zZ, za, zb, zc, zd, ze, zf, zg, zh, zi, zj, zk, zl, zm, zn, zo, zp, zq, zr, zt, zu, zw, zx, zy, zz, cE, jA, jB, hap, killE, deadOf, rwE, cD, cO, jC, jD, jE, jF, jG, jH, jI, jJ, jK, jL, jM, jN, jO, jP, jQ, jR, jS, jT, jU, jV, jW, jX, jY, hP, hk, res22, kp22, dG0, slDs, wdE, rwE, Int.toNat_natCast, Nat.reduceMul, Nat.reduceLeDiff, if_true, Nat.reduceAdd, Nat.mul_one, q1, p0, p3, p4, p5, p6, q2, c1, p1, c2])
          exact nx out hg.1 hg.2 (by omega) _ (sub_mk ⟨rfl, rfl, rfl, rfl, trivial⟩)
  · have q1 : decide ((i : Int) ≤ (s.length : Int)) = false := decide_eq_false (by omega)
    have hW := hend (by omega)
    (refine VT_ok hctr (rs := res22) true 300 _ _ _ ?_; simp (maxSteps := 1000000) only [VT, jf, jg, jZ, ja, jd, je, VC, qA, qB, qC, qD, qE, qF, qG, qH, qI, qJ, qK, qL, qM, qN, qO, qP, qQ, qR, qS, qT, qU, qV, qW, qX, qY, qZ, qe, qf, qg, qh, qj, qk, ql, qm, qn, qo, qp, qq, q0t, qu, qv, ev, qw, qy, qz, zA, zB, zC, zD, zE, zF, zG, zH, zI, zJ, TE.sv, zK, zL, zM, ↓reduceIte, reduceCtorEq, Value.oneCell', Nat.reduceEqDiff, Nat.reduceAdd, Nat.reduceLT, Nat.reduceBEq, Nat.reduceSub, Nat.reduceLeDiff, zP, zQ, zR, zS, zT, zU, zV, zW, zX, zY, zZ, za, zb, zc, zd, ze, zf, zg, zh, zi, zj, zk, zl, zm, zn, zo, zp, zq, zr, zt, zu, zw, zx, zy, zz, cE, jA, jB, hap, killE, deadOf, rwE, cD, cO, jC, jD, jE, jF, jG, jH, jI, jJ, jK, jL, jM, jN, jO, jP, jQ, jR, jS, jT, jU, jV, jW, jX, jY, hP, hk, res22, kp22, dG0, slDs, wdE, rwE, Int.toNat_natCast, Nat.reduceMul, Nat.reduceLeDiff, if_true, Nat.reduceAdd, Nat.mul_one, q1])
    refine hX rfl rfl ?_
    have hP := hP0; have hk := hk0; have hctr := hctr0
    (refine VT_ok hctr (rs := res22) true 300 _ _ _ ?_; simp (maxSteps := 1000000) only [VT, jf, jg, jZ, ja, jd, je, VC, qA, qB, qC, qD, qE, qF, qG, qH, qI, qJ, qK, qL, qM, qN, qO, qP, qQ, qR, qS, qT, qU, qV, qW, qX, qY, qZ, qe, qf, qg, qh, qj, qk, ql, qm, qn, qo, qp, qq, q0t, qu, qv, ev, qw, qy, qz, zA, zB, zC, zD, zE, zF, zG, zH, zI, zJ, TE.sv, zK, zL, zM, ↓reduceIte, reduceCtorEq, Value.oneCell', Nat.reduceEqDiff, Nat.reduceAdd, Nat.reduceLT, Nat.reduceBEq, Nat.reduceSub, Nat.reduceLeDiff, zP, zQ, zR, zS, zT, zU, zV, zW, zX, zY, zZ, za, zb, zc, zd, ze, zf, zg, zh, zi, zj, zk, zl, zm, zn, zo, zp, zq, zr, zt, zu, zw, zx, zy, zz, cE, jA, jB, hap, killE, deadOf, rwE, cD, cO, jC, jD, jE, jF, jG, jH, jI, jJ, jK, jL, jM, jN, jO, jP, jQ, jR, jS, jT, jU, jV, jW, jX, jY, hP, hk, res22, kp22, dG0, slDs, wdE, rwE, Int.toNat_natCast, Nat.reduceMul, Nat.reduceLeDiff, if_true, Nat.reduceAdd, Nat.mul_one, q1])
    exact fin out hW.symm
end Go.Proofs.YtlaagebdbcmckaaGreatDoor
