/- ambryref20.Same of two equal requests of either protocol. Printed by gen_csame.py. -/
import Derived.Test.YtehfcboiimdkbaaGreatDoorCCgq
import Derived.Test.YtehfcboiimdkbaaGreatDoorBM
namespace Go.Proofs.YtehfcboiimdkbaaGreatDoor
set_option linter.unusedSimpArgs false
set_option linter.unusedVariables false
set_option linter.unusedSimpArgs false
set_option linter.unusedVariables false
set_option maxHeartbeats 8000000
open Go.RowKit
set_option maxRecDepth 100000
theorem stEq_cm (a b : Cd) : StEq Tryz.prog 54 (ecS a) (ecS b) := stEq_of (by kernel_rfl) (by kernel_rfl) (by kernel_rfl) (by kernel_rfl)
theorem steq_cm (o m : Int) (k v : List UInt8) (f e : Int) (he : Bool) (c : Int) (hc : Bool) (d i : Int) (dn vv : Bool) (ve rc : Int) (iv : Bool) (o' m' : Int) (k' v' : List UInt8) (f' e' : Int) (he' : Bool) (c' : Int) (hc' : Bool) (d' i' : Int) (dn' vv' : Bool) (ve' rc' : Int) (iv' : Bool) :
    StEq Tryz.prog 54 [.i .i64 o, .i .i64 m, .s k, .s v, .i .u32 f, .i .i64 e, .b he, .i .u64 c, .b hc, .i .u64 d, .i .u64 i, .b dn, .b vv, .i .i64 ve, .i .i64 rc, .b iv] [.i .i64 o', .i .i64 m', .s k', .s v', .i .u32 f', .i .i64 e', .b he', .i .u64 c', .b hc', .i .u64 d', .i .u64 i', .b dn', .b vv', .i .i64 ve', .i .i64 rc', .b iv'] :=
  stEq_cm ⟨o, m, k, v, f, e, he, c, hc, d, i, dn, vv, ve, rc, iv⟩ ⟨o', m', k', v', f', e', he', c', hc', d', i', dn', vv', ve', rc', iv'⟩
theorem same2_w {w : World} {a a' : Option Addr} {m c c' : Nat} {F : List (List UInt8)} (hr : RawT w a F) (hr' : RawT w a' F) (hm : F.length = m) (hl : m ≤ 9223372036854775807) : Calls Tryz.prog 21 #[.slice a m c, .slice a' m c'] w fun e w' => e = .returned (.bool true) ∧ Below w.heap.size w w' := by
  refine calls_of_Run Tryz.func21 rfl kp21 (S := Non) (ρ := fun _ => reOf 0) (en := []) [.c (.v (.slice a m c)), .c (.v (.slice a' m c'))] Tryz.ntmps21 (At.nil _ _ _) (by simp [SV.wf, SC.wf]) (by simp) ?_
  intro C hC hP hk
  have hctr : CtrOk C (fun _ _ _ => none) := by intro f en xs p v h; cases h
  (refine VT_ok hctr (rs := res21) true 200 _ _ _ ?_; simp (maxSteps := 1000000) only [VT, jf, jg, jZ, ja, jd, je, VC, qA, qB, qC, qD, qE, qF, qG, qH, qI, qJ, qK, qL, qM, qN, qO, qP, qQ, qR, qS, qT, qU, qV, qW, qX, qY, qZ, qe, qf, qg, qh, qj, qk, ql, qm, qn, qo, qp, qq, q0t, qu, qv, ev, qw, qy, qz, zA, zB, zC, zD, zE, zF, zG, zH, zI, zJ, TE.sv, zK, zL, zM, ↓reduceIte, reduceCtorEq, Value.oneCell', Nat.reduceEqDiff, Nat.reduceAdd, Nat.reduceLT, Nat.reduceBEq, Nat.reduceSub, Nat.reduceLeDiff, zP, zQ, zR, zS, zT, zU, zV, zW, zX, zY, zZ, za, zb, zc, zd, ze, zf, zg, zh, zi, zj, zk, zl, zm, zn, zo, zp, zq, zr, zt, zu, zw, zx, zy, zz, cE, jA, jB, hap, killE, deadOf, rwE, cD, cO, jC, jD, jE, jF, jG, jH, jI, jJ, jK, jL, jM, jN, jO, jP, jQ, jR, jS, jT, jU, jV, jW, jX, jY, hP, hk, res21, kp21, bne_self_eq_false])
  refine Run_loopP (ι := { j : Nat // j ≤ m }) (fun j => [(5, .c (.i .i64 (j.1 : Int))), (0, .c (.v (.slice a m c))), (1, .c (.v (.slice a' m c')))]) (fun _ => []) (fun j => m + 1 - j.1) ⟨0, Nat.zero_le _⟩ (sub_mk ⟨rfl, rfl, rfl, trivial⟩) rfl ?_
  rintro ⟨j, hj⟩ D dP dS dw dn dr dk ddf dPan dRet hX hJ
  have hP0 := hP; have hk0 := hk; have hctr0 := hctr
  have hP : D.P = Tryz.prog := by rw [dP]; exact hP0
  have hk : D.kp = kp21 := by rw [dk]; exact hk0
  have hctr : CtrOk D (fun _ _ _ => none) := by intro f en xs p v h; cases h
  have hS' : D.S = Non := by rw [dS, hC]; rfl
  have hw' : D.w0 = w := by rw [dw, hC]; rfl
  by_cases hjn : j < m
  · obtain ⟨x, hx⟩ : ∃ x, F[j]? = some x := ⟨_, List.getElem?_eq_getElem (by omega)⟩
    obtain ⟨b, o, rfl, r1⟩ := hr.rd (D := D) hS' hw' hx
    obtain ⟨b', o', rfl, r2⟩ := hr'.rd (D := D) hS' hw' hx
    have c1 : decide ((j : Int) < ((m : Nat) : Int)) = true := decide_eq_true (by omega)
    have p3 : IntKind.i64.wrap ((j : Int) + 1) = ((j + 1 : Nat) : Int) := by rw [IntWalk.i64_in _ (by omega)]; rfl
    have p0 : (0 : Int) ≤ (j : Int) := by omega
    have p1 : (j : Int) < ((m : Nat) : Int) := by omega
    (refine VT_ok hctr (rs := res21) true 200 _ _ _ ?_; simp (maxSteps := 1000000) only [VT, jf, jg, jZ, ja, jd, je, VC, qA, qB, qC, qD, qE, qF, qG, qH, qI, qJ, qK, qL, qM, qN, qO, qP, qQ, qR, qS, qT, qU, qV, qW, qX, qY, qZ, qe, qf, qg, qh, qj, qk, ql, qm, qn, qo, qp, qq, q0t, qu, qv, ev, qw, qy, qz, zA, zB, zC, zD, zE, zF, zG, zH, zI, zJ, TE.sv, zK, zL, zM, ↓reduceIte, reduceCtorEq, Value.oneCell', Nat.reduceEqDiff, Nat.reduceAdd, Nat.reduceLT, Nat.reduceBEq, Nat.reduceSub, Nat.reduceLeDiff, zP, zQ, zR, zS, zT, zU, zV, zW, zX, zY, zZ, za, zb, zc, zd, ze, zf, zg, zh, zi, zj, zk, zl, zm, zn, zo, zp, zq, zr, zt, zu, zw, zx, zy, zz, cE, jA, jB, hap, killE, deadOf, rwE, cD, cO, jC, jD, jE, jF, jG, jH, jI, jJ, jK, jL, jM, jN, jO, jP, jQ, jR, jS, jT, jU, jV, jW, jX, jY, hP, hk, res21, kp21, c1, p3, p0, p1, r1, r2, Int.toNat_natCast, Nat.mul_one])
    (refine Run_drawD hctr (by rw [hP]; rfl) rs21_6 [] (ensure_type_of% (Cmp.of (by simp (maxSteps := 1000000) only [VC, qA, qB, qC, qD, qE, qF, qG, qH, qI, qJ, qK, qL, qM, qN, qO, qP, qQ, qR, qS, qT, qU, qV, qW, qX, qY, qZ, qe, qf, qg, qh, qj, qk, ql, qm, qn, qo, qp, qq, q0t, qu, qv, ev, qw, qy, qz, zA, zB, zC, zD, zE, zF, zG, zH, zI, zJ, TE.sv, zK, zL, zM, ↓reduceIte, reduceCtorEq, Value.oneCell', Nat.reduceEqDiff, Nat.reduceAdd, Nat.reduceLT, Nat.reduceBEq, Nat.reduceSub, Nat.reduceLeDiff, zP, zQ, zR, zS, zT, zU, zV, zW, zX, zY, zZ, za, zb, zc, zd, ze, zf, zg, zh, zi, zj, zk, zl, zm, zn, zo, zp, zq, zr, zt, zu, zw, zx, zy, zz, cE, jA, jB, hap, killE, deadOf, rwE, cD, cO, jC, jD, jE, jF, jG, jH, jI, jJ, jK, jL, jM, jN, jO, jP, jQ, jR, jS, jT, jU, jV, jW, jX, jY, hP, c1, p3, p0, p1, r1, r2, Int.toNat_natCast, Nat.mul_one, beq_self_eq_true, bne_self_eq_false, Bool.not_true]; rfl)) "" Cmp.mk) (by kernel_rfl) (by kernel_rfl) (by first | exact lenB_one _ | kernel_rfl) (by kernel_rfl) (by rfl) (by rfl) (by first | exact firstN_self _ | rfl) (by rfl) (by simp (maxSteps := 1000000) only [VC, qA, qB, qC, qD, qE, qF, qG, qH, qI, qJ, qK, qL, qM, qN, qO, qP, qQ, qR, qS, qT, qU, qV, qW, qX, qY, qZ, qe, qf, qg, qh, qj, qk, ql, qm, qn, qo, qp, qq, q0t, qu, qv, ev, qw, qy, qz, zA, zB, zC, zD, zE, zF, zG, zH, zI, zJ, TE.sv, zK, zL, zM, ↓reduceIte, reduceCtorEq, Value.oneCell', Nat.reduceEqDiff, Nat.reduceAdd, Nat.reduceLT, Nat.reduceBEq, Nat.reduceSub, Nat.reduceLeDiff, zP, zQ, zR, zS, zT, zU, zV, zW, zX, zY, zZ, za, zb, zc, zd, ze, zf, zg, zh, zi, zj, zk, zl, zm, zn, zo, zp, zq, zr, zt, zu, zw, zx, zy, zz, cE, jA, jB, hap, killE, deadOf, rwE, cD, cO, jC, jD, jE, jF, jG, jH, jI, jJ, jK, jL, jM, jN, jO, jP, jQ, jR, jS, jT, jU, jV, jW, jX, jY, hP, c1, p3, p0, p1, r1, r2, Int.toNat_natCast, Nat.mul_one, beq_self_eq_true, bne_self_eq_false, Bool.not_true]) ?_; refine VT_ok hctr (rs := res21) true 300 _ _ _ ?_; simp (maxSteps := 1000000) only [VT, jf, jg, jZ, ja, jd, je, VC, qA, qB, qC, qD, qE, qF, qG, qH, qI, qJ, qK, qL, qM, qN, qO, qP, qQ, qR, qS, qT, qU, qV, qW, qX, qY, qZ, qe, qf, qg, qh, qj, qk, ql, qm, qn, qo, qp, qq, q0t, qu, qv, ev, qw, qy, qz, zA, zB, zC, zD, zE, zF, zG, zH, zI, zJ, TE.sv, zK, zL, zM, ↓reduceIte, reduceCtorEq, Value.oneCell', Nat.reduceEqDiff, Nat.reduceAdd, Nat.reduceLT, Nat.reduceBEq, Nat.reduceSub, Nat.reduceLeDiff, zP, zQ, zR, zS, zT, zU, zV, zW, zX, zY, zZ, za, zb, zc, zd, ze, zf, zg, zh, zi, zj, zk, zl, zm, zn, zo, zp, zq, zr, zt, zu, zw, zx, zy, zz, cE, jA, jB, hap, killE, deadOf, rwE, cD, cO, jC, jD, jE, jF, jG, jH, jI, jJ, jK, jL, jM, jN, jO, jP, jQ, jR, jS, jT, jU, jV, jW, jX, jY, hP, hk, res21, kp21, c1, p3, p0, p1, r1, r2, Int.toNat_natCast, Nat.mul_one, beq_self_eq_true, bne_self_eq_false, Bool.not_true])
    exact hJ ⟨j + 1, by omega⟩ _ (by show m + 1 - (j + 1) < m + 1 - j; omega) (sub_mk ⟨rfl, rfl, rfl, trivial⟩)
  · have c1 : decide ((j : Int) < ((m : Nat) : Int)) = false := decide_eq_false (by omega)
    (refine VT_ok hctr (rs := res21) true 200 _ _ _ ?_; simp (maxSteps := 1000000) only [VT, jf, jg, jZ, ja, jd, je, VC, qA, qB, qC, qD, qE, qF, qG, qH, qI, qJ, qK, qL, qM, qN, qO, qP, qQ, qR, qS, qT, qU, qV, qW, qX, qY, qZ, qe, qf, qg, qh, qj, qk, ql, qm, qn, qo, qp, qq, q0t, qu, qv, ev, qw, qy, qz, zA, zB, zC, zD, zE, zF, zG, zH, zI, zJ, TE.sv, zK, zL, zM, ↓reduceIte, reduceCtorEq, Value.oneCell', Nat.reduceEqDiff, Nat.reduceAdd, Nat.reduceLT, Nat.reduceBEq, Nat.reduceSub, Nat.reduceLeDiff, zP, zQ, zR, zS, zT, zU, zV, zW, zX, zY, zZ, za, zb, zc, zd, ze, zf, zg, zh, zi, zj, zk, zl, zm, zn, zo, zp, zq, zr, zt, zu, zw, zx, zy, zz, cE, jA, jB, hap, killE, deadOf, rwE, cD, cO, jC, jD, jE, jF, jG, jH, jI, jJ, jK, jL, jM, jN, jO, jP, jQ, jR, jS, jT, jU, jV, jW, jX, jY, hP, hk, res21, kp21, c1])
    refine hX rfl rfl ?_
    have hP := hP0; have hk := hk0; have hctr := hctr0
    (refine VT_ok hctr (rs := res21) true 200 _ _ _ ?_; simp (maxSteps := 1000000) only [VT, jf, jg, jZ, ja, jd, je, VC, qA, qB, qC, qD, qE, qF, qG, qH, qI, qJ, qK, qL, qM, qN, qO, qP, qQ, qR, qS, qT, qU, qV, qW, qX, qY, qZ, qe, qf, qg, qh, qj, qk, ql, qm, qn, qo, qp, qq, q0t, qu, qv, ev, qw, qy, qz, zA, zB, zC, zD, zE, zF, zG, zH, zI, zJ, TE.sv, zK, zL, zM, ↓reduceIte, reduceCtorEq, Value.oneCell', Nat.reduceEqDiff, Nat.reduceAdd, Nat.reduceLT, Nat.reduceBEq, Nat.reduceSub, Nat.reduceLeDiff, zP, zQ, zR, zS, zT, zU, zV, zW, zX, zY, zZ, za, zb, zc, zd, ze, zf, zg, zh, zi, zj, zk, zl, zm, zn, zo, zp, zq, zr, zt, zu, zw, zx, zy, zz, cE, jA, jB, hap, killE, deadOf, rwE, cD, cO, jC, jD, jE, jF, jG, jH, jI, jJ, jK, jL, jM, jN, jO, jP, jQ, jR, jS, jT, jU, jV, jW, jX, jY, hP, hk, res21, kp21, c1])
    exact Fin_ro (v := .c (.b true)) hC hres21 rfl trivial
def rowSame2 (fa fa' : Option Addr) (n fc fc' : Nat) : List SV → Option (Prop × SV)
  | [.c (.v x), .c (.v y)] => some (x = .slice fa n fc ∧ y = .slice fa' n fc', .c (.b true))
  | _ => none
def saC (fa fa' : Option Addr) (n fc fc' : Nat) : Ctr := fun f _ xs => match f with
  | 21 => rowSame2 fa fa' n fc fc' xs
  | _ => none
theorem saC_ok {C : Cx} {fa fa' : Option Addr} {n fc fc' : Nat} {F : List (List UInt8)} (hP : C.P = Tryz.prog) (hF : ∀ w, Upd C.S C.w0 w → RawT w fa F ∧ RawT w fa' F) (hn : F.length = n) (hl : n ≤ 9223372036854775807) : CtrOk C (saC fa fa' n fc fc') := by
  intro f en xs p v h hp ρ w hup hHp hHo hinj hwf
  unfold saC at h
  split at h
  · rw [hP]
    refine ⟨fun args w => Tryz.call21 args w, ?_⟩
    unfold rowSame2 at h
    split at h <;> simp only [Option.some.injEq, Prod.mk.injEq, reduceCtorEq] at h
    obtain ⟨rfl, rfl⟩ := h
    obtain ⟨rfl, rfl⟩ := hp
    exact ⟨trivial, same2_w (hF w hup).1 (hF w hup).2 hn hl⟩
  · cases h
def RawC (w : World) (a : Option Addr) (cs : List Cd) : Prop :=
  ∀ (k : Nat) c, cs[k]? = some c → ∃ b o, a = some ⟨b, o, none⟩ ∧ b < w.heap.size ∧ ∀ (j : Nat) v, (ecA c).toList[j]? = some v → w.cell? ⟨b, o + k * 16 + j, none⟩ = some v
theorem same_w {w : World} {a a' fa fa' : Option Addr} {m c c' n fc fc' : Nat} {r : Gq} (hr : RawC w a r.cmds) (hr' : RawC w a' r.cmds) (hm : r.cmds.length = m) (h1 : m ≤ c) (h2 : m ≤ c') (hl : m ≤ 9223372036854775807) (hf : RawT w fa r.flags) (hf' : RawT w fa' r.flags) (hn : r.flags.length = n) (hnl : n ≤ 9223372036854775807) :
    Calls Tryz.prog 17 #[gqA (.slice a m c) (.slice fa n fc) r, gqA (.slice a' m c') (.slice fa' n fc') r] w fun e w' => e = .returned (.bool true) ∧ Below w.heap.size w w' := by
  refine calls_of_Run Tryz.func17 rfl kp17 (S := Non) (ρ := fun _ => reOf 0) (en := []) [.g (gqS (.v (.slice a m c)) (.v (.slice fa n fc)) r), .g (gqS (.v (.slice a' m c')) (.v (.slice fa' n fc')) r)] Tryz.ntmps17 (At.nil _ _ _) (by intro x hx; simp only [List.mem_cons, List.not_mem_nil, or_false] at hx; rcases hx with rfl | rfl <;> (intro z hz; simp only [gqS, List.mem_cons, List.not_mem_nil, or_false] at hz; rcases hz with rfl | rfl | rfl | rfl | rfl | rfl | rfl | rfl | rfl | rfl | rfl <;> trivial)) (by simp) ?_
  intro C hC hP hk
  have hctr := saC_ok (fc := fc) (fc' := fc') hP (fun w' hu => by rw [hC] at hu; exact ⟨hf.upd hu, hf'.upd hu⟩) hn hnl
  (refine VT_ok hctr (rs := res17) true 300 _ _ _ ?_; simp (maxSteps := 1000000) only [VT, jf, jg, jZ, ja, jd, je, VC, qA, qB, qC, qD, qE, qF, qG, qH, qI, qJ, qK, qL, qM, qN, qO, qP, qQ, qR, qS, qT, qU, qV, qW, qX, qY, qZ, qe, qf, qg, qh, qj, qk, ql, qm, qn, qo, qp, qq, q0t, qu, qv, ev, qw, qy, qz, zA, zB, zC, zD, zE, zF, zG, zH, zI, zJ, TE.sv, zK, zL, zM, ↓reduceIte, reduceCtorEq, Value.oneCell', Nat.reduceEqDiff, Nat.reduceAdd, Nat.reduceLT, Nat.reduceBEq, Nat.reduceSub, Nat.reduceLeDiff, zP, zQ, zR, zS, zT, zU, zV, zW, zX, zY, zZ, za, zb, zc, zd, ze, zf, zg, zh, zi, zj, zk, zl, zm, zn, zo, zp, zq, zr, zt, zu, zw, zx, zy, zz, cE, jA, jB, hap, killE, deadOf, rwE, cD, cO, jC, jD, jE, jF, jG, jH, jI, jJ, jK, jL, jM, jN, jO, jP, jQ, jR, jS, jT, jU, jV, jW, jX, jY, hP, hk, res17, kp17, saC, rowSame2, gqS, bne_self_eq_false, List.append_eq, List.cons_append, List.nil_append, beq_self_eq_true, Bool.not_true])
  refine ⟨Tryz.underlying4, Tryz.underlying4, Tryz.underlying4, ?_⟩
  refine Run_loopP (ι := { j : Nat // j ≤ m }) (fun j => [(6, .c (.i .i64 (j.1 : Int))), (2, .c (.p 0 0)), (3, .c (.p 1 0))])
    (fun _ => [⟨(30, 0, whole), gqS (.v (.slice a m c)) (.v (.slice fa n fc)) r, true⟩, ⟨(30, 0, whole), gqS (.v (.slice a' m c')) (.v (.slice fa' n fc')) r, true⟩]) (fun j => m + 1 - j.1) ⟨0, Nat.zero_le _⟩ (sub_mk ⟨rfl, rfl, rfl, trivial⟩) rfl ?_
  rintro ⟨j, hj⟩ D dP dS dw dn dr dk ddf dPan dRet hX hJ
  have hP0 := hP; have hk0 := hk; have hctr0 := hctr
  have hP : D.P = Tryz.prog := by rw [dP]; exact hP0
  have hk : D.kp = kp17 := by rw [dk]; exact hk0
  have hctr : CtrOk D (saC fa fa' n fc fc') := saC_ok hP (fun w' hu => by rw [dS, dw, hC] at hu; exact ⟨hf.upd hu, hf'.upd hu⟩) hn hnl
  have hS' : D.S = Non := by rw [dS, hC]; rfl
  have hw' : D.w0 = w := by rw [dw, hC]; rfl
  by_cases hjn : j < m
  · obtain ⟨x, hx⟩ : ∃ x, r.cmds[j]? = some x := ⟨_, List.getElem?_eq_getElem (by omega)⟩
    obtain ⟨b, o, rfl, hb, hc1⟩ := hr j x hx
    obtain ⟨b', o', rfl, hb', hc2⟩ := hr' j x hx
    have r1 : D.rd b (o + j * 16) 16 = some (ecS x) := rd_arg hS' hw' hb hc1 rfl
    have r2 : D.rd b' (o' + j * 16) 16 = some (ecS x) := rd_arg hS' hw' hb' hc2 rfl
    simp only [ecS] at r1 r2
    have c1 : decide ((j : Int) < ((m : Nat) : Int)) = true := decide_eq_true (by omega)
    have p3 : IntKind.i64.wrap ((j : Int) + 1) = ((j + 1 : Nat) : Int) := by rw [IntWalk.i64_in _ (by omega)]; rfl
    have p0 : (0 : Int) ≤ (j : Int) := by omega
    have p1 : (j : Int) < ((m : Nat) : Int) := by omega
    (refine VT_ok hctr (rs := res17) true 300 _ _ _ ?_; simp (maxSteps := 1000000) only [VT, jf, jg, jZ, ja, jd, je, VC, qA, qB, qC, qD, qE, qF, qG, qH, qI, qJ, qK, qL, qM, qN, qO, qP, qQ, qR, qS, qT, qU, qV, qW, qX, qY, qZ, qe, qf, qg, qh, qj, qk, ql, qm, qn, qo, qp, qq, q0t, qu, qv, ev, qw, qy, qz, zA, zB, zC, zD, zE, zF, zG, zH, zI, zJ, TE.sv, zK, zL, zM, ↓reduceIte, reduceCtorEq, Value.oneCell', Nat.reduceEqDiff, Nat.reduceAdd, Nat.reduceLT, Nat.reduceBEq, Nat.reduceSub, Nat.reduceLeDiff, zP, zQ, zR, zS, zT, zU, zV, zW, zX, zY, zZ, za, zb, zc, zd, ze, zf, zg, zh, zi, zj, zk, zl, zm, zn, zo, zp, zq, zr, zt, zu, zw, zx, zy, zz, cE, jA, jB, hap, killE, deadOf, rwE, cD, cO, jC, jD, jE, jF, jG, jH, jI, jJ, jK, jL, jM, jN, jO, jP, jQ, jR, jS, jT, jU, jV, jW, jX, jY, hP, hk, res17, kp17, gqS, c1, p3, p0, p1, r1, r2, Int.toNat_natCast, steq_cm, beq_self_eq_true, bne_self_eq_false, Bool.not_true, true_and])
    (refine Run_drawD hctr (by rw [hP]; rfl) rs17_7 [] (ensure_type_of% (Cmp.of (by simp (maxSteps := 1000000) only [VC, qA, qB, qC, qD, qE, qF, qG, qH, qI, qJ, qK, qL, qM, qN, qO, qP, qQ, qR, qS, qT, qU, qV, qW, qX, qY, qZ, qe, qf, qg, qh, qj, qk, ql, qm, qn, qo, qp, qq, q0t, qu, qv, ev, qw, qy, qz, zA, zB, zC, zD, zE, zF, zG, zH, zI, zJ, TE.sv, zK, zL, zM, ↓reduceIte, reduceCtorEq, Value.oneCell', Nat.reduceEqDiff, Nat.reduceAdd, Nat.reduceLT, Nat.reduceBEq, Nat.reduceSub, Nat.reduceLeDiff, zP, zQ, zR, zS, zT, zU, zV, zW, zX, zY, zZ, za, zb, zc, zd, ze, zf, zg, zh, zi, zj, zk, zl, zm, zn, zo, zp, zq, zr, zt, zu, zw, zx, zy, zz, cE, jA, jB, hap, killE, deadOf, rwE, cD, cO, jC, jD, jE, jF, jG, jH, jI, jJ, jK, jL, jM, jN, jO, jP, jQ, jR, jS, jT, jU, jV, jW, jX, jY, hP, gqS, c1, p3, p0, p1, r1, r2, Int.toNat_natCast, steq_cm, beq_self_eq_true, bne_self_eq_false, Bool.not_true, true_and]; rfl)) "" Cmp.mk) (by kernel_rfl) (by kernel_rfl) (by first | exact lenB_one _ | kernel_rfl) (by kernel_rfl) (by rfl) (by rfl) (by first | exact firstN_self _ | rfl) (by rfl) (by simp (maxSteps := 1000000) only [VC, qA, qB, qC, qD, qE, qF, qG, qH, qI, qJ, qK, qL, qM, qN, qO, qP, qQ, qR, qS, qT, qU, qV, qW, qX, qY, qZ, qe, qf, qg, qh, qj, qk, ql, qm, qn, qo, qp, qq, q0t, qu, qv, ev, qw, qy, qz, zA, zB, zC, zD, zE, zF, zG, zH, zI, zJ, TE.sv, zK, zL, zM, ↓reduceIte, reduceCtorEq, Value.oneCell', Nat.reduceEqDiff, Nat.reduceAdd, Nat.reduceLT, Nat.reduceBEq, Nat.reduceSub, Nat.reduceLeDiff, zP, zQ, zR, zS, zT, zU, zV, zW, zX, zY, zZ, za, zb, zc, zd, ze, zf, zg, zh, zi, zj, zk, zl, zm, zn, zo, zp, zq, zr, zt, zu, zw, zx, zy, zz, cE, jA, jB, hap, killE, deadOf, rwE, cD, cO, jC, jD, jE, jF, jG, jH, jI, jJ, jK, jL, jM, jN, jO, jP, jQ, jR, jS, jT, jU, jV, jW, jX, jY, hP, gqS, c1, p3, p0, p1, r1, r2, Int.toNat_natCast, steq_cm, beq_self_eq_true, bne_self_eq_false, Bool.not_true, true_and]) ?_; refine VT_ok hctr (rs := res17) true 300 _ _ _ ?_; simp (maxSteps := 1000000) only [VT, jf, jg, jZ, ja, jd, je, VC, qA, qB, qC, qD, qE, qF, qG, qH, qI, qJ, qK, qL, qM, qN, qO, qP, qQ, qR, qS, qT, qU, qV, qW, qX, qY, qZ, qe, qf, qg, qh, qj, qk, ql, qm, qn, qo, qp, qq, q0t, qu, qv, ev, qw, qy, qz, zA, zB, zC, zD, zE, zF, zG, zH, zI, zJ, TE.sv, zK, zL, zM, ↓reduceIte, reduceCtorEq, Value.oneCell', Nat.reduceEqDiff, Nat.reduceAdd, Nat.reduceLT, Nat.reduceBEq, Nat.reduceSub, Nat.reduceLeDiff, zP, zQ, zR, zS, zT, zU, zV, zW, zX, zY, zZ, za, zb, zc, zd, ze, zf, zg, zh, zi, zj, zk, zl, zm, zn, zo, zp, zq, zr, zt, zu, zw, zx, zy, zz, cE, jA, jB, hap, killE, deadOf, rwE, cD, cO, jC, jD, jE, jF, jG, jH, jI, jJ, jK, jL, jM, jN, jO, jP, jQ, jR, jS, jT, jU, jV, jW, jX, jY, hP, hk, res17, kp17, gqS, c1, p3, p0, p1, r1, r2, Int.toNat_natCast, steq_cm, beq_self_eq_true, bne_self_eq_false, Bool.not_true, true_and])
    exact hJ ⟨j + 1, by omega⟩ _ (by show m + 1 - (j + 1) < m + 1 - j; omega) (sub_mk ⟨rfl, rfl, rfl, trivial⟩)
  · have c1 : decide ((j : Int) < ((m : Nat) : Int)) = false := decide_eq_false (by omega)
    (refine VT_ok hctr (rs := res17) true 300 _ _ _ ?_; simp (maxSteps := 1000000) only [VT, jf, jg, jZ, ja, jd, je, VC, qA, qB, qC, qD, qE, qF, qG, qH, qI, qJ, qK, qL, qM, qN, qO, qP, qQ, qR, qS, qT, qU, qV, qW, qX, qY, qZ, qe, qf, qg, qh, qj, qk, ql, qm, qn, qo, qp, qq, q0t, qu, qv, ev, qw, qy, qz, zA, zB, zC, zD, zE, zF, zG, zH, zI, zJ, TE.sv, zK, zL, zM, ↓reduceIte, reduceCtorEq, Value.oneCell', Nat.reduceEqDiff, Nat.reduceAdd, Nat.reduceLT, Nat.reduceBEq, Nat.reduceSub, Nat.reduceLeDiff, zP, zQ, zR, zS, zT, zU, zV, zW, zX, zY, zZ, za, zb, zc, zd, ze, zf, zg, zh, zi, zj, zk, zl, zm, zn, zo, zp, zq, zr, zt, zu, zw, zx, zy, zz, cE, jA, jB, hap, killE, deadOf, rwE, cD, cO, jC, jD, jE, jF, jG, jH, jI, jJ, jK, jL, jM, jN, jO, jP, jQ, jR, jS, jT, jU, jV, jW, jX, jY, hP, hk, res17, kp17, gqS, c1])
    refine hX rfl rfl ?_
    have hP := hP0; have hk := hk0; have hctr := hctr0
    (refine VT_ok hctr (rs := res17) true 300 _ _ _ ?_; simp (maxSteps := 1000000) only [VT, jf, jg, jZ, ja, jd, je, VC, qA, qB, qC, qD, qE, qF, qG, qH, qI, qJ, qK, qL, qM, qN, qO, qP, qQ, qR, qS, qT, qU, qV, qW, qX, qY, qZ, qe, qf, qg, qh, qj, qk, ql, qm, qn, qo, qp, qq, q0t, qu, qv, ev, qw, qy, qz, zA, zB, zC, zD, zE, zF, zG, zH, zI, zJ, TE.sv, zK, zL, zM, ↓reduceIte, reduceCtorEq, Value.oneCell', Nat.reduceEqDiff, Nat.reduceAdd, Nat.reduceLT, Nat.reduceBEq, Nat.reduceSub, Nat.reduceLeDiff, zP, zQ, zR, zS, zT, zU, zV, zW, zX, zY, zZ, za, zb, zc, zd, ze, zf, zg, zh, zi, zj, zk, zl, zm, zn, zo, zp, zq, zr, zt, zu, zw, zx, zy, zz, cE, jA, jB, hap, killE, deadOf, rwE, cD, cO, jC, jD, jE, jF, jG, jH, jI, jJ, jK, jL, jM, jN, jO, jP, jQ, jR, jS, jT, jU, jV, jW, jX, jY, hP, hk, res17, kp17, gqS, c1])
    exact Fin_ro (v := .c (.b true)) hC hres17 rfl trivial
theorem rawC_of {ρ : Nat → RE} {en : List EN} {w : World} (hHp : Hp ρ (· < en.length) en w) (hHo : Ho ρ (· < en.length) en) {N : Nat} {cs : List Cd} (hN : zD en N = some (rwE 54 16 cs.length (flatG ecS cs))) :
    ∃ a c, (SC.rw N cs.length).den ρ = .slice a cs.length c ∧ cs.length ≤ c ∧ RawC w a cs ∧ cs.length ≤ 9223372036854775807 := by
  have lN : N < en.length := by rw [nthS_eq] at hN; exact (List.getElem?_eq_some_iff.1 hN).1
  obtain ⟨_, hL, hO⟩ := hHo N _ _ _ lN hN
  rcases hO with ⟨h1, h2, h3, h4, h5⟩ | ⟨h1, h2, h3⟩
  · refine ⟨some ⟨(ρ N).blk, 0, none⟩, (ρ N).cap, by simp only [SC.den]; rw [rwOf_on h1], h4, fun k c hc => ?_, by unfold maxLen at h5; omega⟩
    have key : ∀ (j : Nat) v, (ecA c).toList[j]? = some v → w.cell? ⟨(ρ N).blk, 0 + k * 16 + j, none⟩ = some v := by
      intro j v hv
      have hd : dens ρ (ecS c) = (ecA c).toList := rfl
      have hj : j < 16 := by have := (List.getElem?_eq_some_iff.1 hv).1; simpa [ecA] using this
      obtain ⟨y, hy⟩ : ∃ y, (ecS c)[j]? = some y := ⟨_, List.getElem?_eq_getElem (by rw [ecS_len]; exact hj)⟩
      have hyv : y.den ρ = v := by
        rw [← hd] at hv
        simp only [dens, List.getElem?_map, hy, Option.map_some, Option.some.injEq] at hv
        exact hv
      have hf := flatG_nth (z := 16) ecS_len hc hj
      rw [nthS_eq, hy] at hf
      have := hHp.cellAt lN hN hf
      rw [h2, hyv] at this
      rw [← this]
      simp [Nat.add_assoc]
    refine ⟨_, _, rfl, ?_, key⟩
    exact Go.block_lt_of_cell (a := ⟨(ρ N).blk, 0 + k * 16 + 0, none⟩) (key 0 _ rfl)
  · refine ⟨none, 0, by simp only [SC.den]; rw [rwOf_off h1], by omega, fun k c hc => ?_, by omega⟩
    have := (List.getElem?_eq_some_iff.1 hc).1
    omega
theorem rawT_of {ρ : Nat → RE} {en : List EN} {w : World} (hHp : Hp ρ (· < en.length) en w) (hHo : Ho ρ (· < en.length) en) {M : Nat} {F : List (List UInt8)} (hN : zD en M = some (rwE 9 1 F.length (F.map SC.s))) :
    ∃ a c, (SC.rw M F.length).den ρ = .slice a F.length c ∧ RawT w a F ∧ F.length ≤ 9223372036854775807 := by
  have lN : M < en.length := by rw [nthS_eq] at hN; exact (List.getElem?_eq_some_iff.1 hN).1
  obtain ⟨_, hL, hO⟩ := hHo M _ _ _ lN hN
  rcases hO with ⟨h1, h2, h3, h4, h5⟩ | ⟨h1, h2, h3⟩
  · refine ⟨_, _, rwOf_on h1 _, fun j x hx => ?_, by unfold maxLen at h5; omega⟩
    have hf : (F.map SC.s)[j]? = some (.s x) := by rw [List.getElem?_map, hx]; rfl
    have := hHp.cellAt lN hN hf
    rw [h2] at this
    have hcl : w.cell? ⟨(ρ M).blk, 0 + j, none⟩ = some (.string ⟨x.toArray⟩) := this
    exact ⟨_, 0, rfl, Go.block_lt_of_cell hcl, hcl⟩
  · have h0 : F = [] := List.eq_nil_of_length_eq_zero h2
    subst h0
    exact ⟨_, _, rwOf_off h1 _, fun j x hx => by simp at hx, by simp⟩
structure RawP where
  a : Option Addr
  c : Nat
  fa : Option Addr
  fc : Nat
def gqP (r : Gq) (p : RawP) : List SC := gqS (.v (.slice p.a r.cmds.length p.c)) (.v (.slice p.fa r.flags.length p.fc)) r
theorem gqP_wf (pr : Nat → Prop) (r : Gq) (p : RawP) : wfs pr (gqP r p) := by
  intro z hz
  simp only [gqP, gqS, List.mem_cons, List.not_mem_nil, or_false] at hz
  rcases hz with rfl | rfl | rfl | rfl | rfl | rfl | rfl | rfl | rfl | rfl | rfl <;> trivial
structure RawAt (w : World) (r : Gq) (p : RawP) : Prop where
  c : RawC w p.a r.cmds
  t : RawT w p.fa r.flags
  le : r.cmds.length ≤ p.c
def farA (B : Nat → Prop) (a : Option Addr) : Prop := ∀ b o, a = some ⟨b, o, none⟩ → ¬ B b
structure FarP (B : Nat → Prop) (p : RawP) : Prop where
  a : farA B p.a
  fa : farA B p.fa
theorem RawC.updS {w w' : World} {a : Option Addr} {cs : List Cd} {S : Nat → Prop} (h : RawC w a cs) (hu : Upd S w w') (hf : farA S a) : RawC w' a cs := by
  intro k c hc
  obtain ⟨b, o, rfl, h1, h2⟩ := h k c hc
  refine ⟨b, o, rfl, Nat.lt_of_lt_of_le h1 hu.size, fun j v hv => ?_⟩
  rw [hu.cell (p := ⟨b, o + k * 16 + j, none⟩) h1 (hf b o rfl)]
  exact h2 j v hv
theorem RawT.updS {w w' : World} {a : Option Addr} {ws : List (List UInt8)} {S : Nat → Prop} (h : RawT w a ws) (hu : Upd S w w') (hf : farA S a) : RawT w' a ws := by
  intro k c hc
  obtain ⟨b, o, rfl, h1, h2⟩ := h k c hc
  exact ⟨b, o, rfl, Nat.lt_of_lt_of_le h1 hu.size, by rw [hu.cell (p := ⟨b, o + k, none⟩) h1 (hf b o rfl)]; exact h2⟩
theorem RawAt.upd {w w' : World} {r : Gq} {p : RawP} {S : Nat → Prop} (h : RawAt w r p) (hu : Upd S w w') (hf : FarP S p) : RawAt w' r p := ⟨h.c.updS hu hf.a, h.t.updS hu hf.fa, h.le⟩
def rowSameP (r : Gq) (p : RawP) (en : List EN) : List SV → Option (Prop × SV)
  | [.g xs, .g ys] => some (∃ N, xs = gqZ r N ∧ ys = gqP r p ∧ zD en N = some (cmG r) ∧ zD en (N + 1) = some (flG r), .c (.b true))
  | _ => none
theorem rowSameP_ok {r : Gq} {p : RawP} {ρ : Nat → RE} {en : List EN} {w : World} {xs : List SV} {P : Prop} {v : SV} (h : rowSameP r p en xs = some (P, v)) (hp : P) (hHp : Hp ρ (· < en.length) en w) (hHo : Ho ρ (· < en.length) en) (hr : RawAt w r p) :
    v.wf (· < en.length) ∧ Calls Tryz.prog 17 (xs.map (SV.den ρ)).toArray w fun e w' => e = .returned (v.den ρ) ∧ Below w.heap.size w w' := by
  unfold rowSameP at h
  split at h <;> simp only [Option.some.injEq, Prod.mk.injEq, reduceCtorEq] at h
  obtain ⟨rfl, rfl⟩ := h
  obtain ⟨N, rfl, rfl, h1, h2⟩ := hp
  obtain ⟨a, c, e1, c1, R1, h3⟩ := rawC_of hHp hHo h1
  obtain ⟨fa, fc, g1, F1, h4⟩ := rawT_of hHp hHo h2
  refine ⟨trivial, ?_⟩
  have := same_w (fc := fc) (fc' := p.fc) R1 hr.c rfl c1 hr.le h3 F1 hr.t rfl h4
  rw [← e1, ← g1] at this
  exact this
theorem gqP_of {ρ : Nat → RE} {en : List EN} {w : World} (hHp : Hp ρ (· < en.length) en w) (hHo : Ho ρ (· < en.length) en) {N : Nat} {r : Gq} (h1 : zD en N = some (cmG r)) (h2 : zD en (N + 1) = some (flG r)) :
    ∃ p : RawP, RawAt w r p ∧ dens ρ (gqP r p) = dens ρ (gqZ r N) ∧ (∀ b o, p.a = some ⟨b, o, none⟩ → (ρ N).nl = none ∧ (ρ N).blk = b) ∧ (∀ b o, p.fa = some ⟨b, o, none⟩ → (ρ (N + 1)).nl = none ∧ (ρ (N + 1)).blk = b) := by
  obtain ⟨a, c, e1, c1, R1, h3⟩ := rawC_of hHp hHo h1
  obtain ⟨fa, fc, g1, F1, h4⟩ := rawT_of hHp hHo h2
  refine ⟨⟨a, c, fa, fc⟩, ⟨R1, F1, c1⟩, ?_, ?_, ?_⟩
  · have key : ∀ x y x' y' : SC, x.den ρ = x'.den ρ → y.den ρ = y'.den ρ → dens ρ (gqS x y r) = dens ρ (gqS x' y' r) := by
      intro x y x' y' h h'
      simp only [gqS, dens, List.map_cons, List.map_nil, h, h']
    exact key _ _ _ _ e1.symm g1.symm
  · intro b o e
    have e : a = _ := e
    rw [e] at e1
    have lN : N < en.length := by rw [nthS_eq] at h1; exact (List.getElem?_eq_some_iff.1 h1).1
    obtain ⟨_, _, hO⟩ := hHo (N) _ _ _ lN h1
    simp only [SC.den, rwOf] at e1
    rcases hO with ⟨q, _⟩ | ⟨q, _⟩ <;> rw [q] at e1 <;> simp only [Value.slice.injEq, Option.some.injEq, Addr.mk.injEq, reduceCtorEq, false_and] at e1
    exact ⟨q, e1.1.1⟩
  · intro b o e
    have e : fa = _ := e
    rw [e] at g1
    have lN : N + 1 < en.length := by rw [nthS_eq] at h2; exact (List.getElem?_eq_some_iff.1 h2).1
    obtain ⟨_, _, hO⟩ := hHo (N + 1) _ _ _ lN h2
    simp only [SC.den, rwOf] at g1
    rcases hO with ⟨q, _⟩ | ⟨q, _⟩ <;> rw [q] at g1 <;> simp only [Value.slice.injEq, Option.some.injEq, Addr.mk.injEq, reduceCtorEq, false_and] at g1
    exact ⟨q, g1.1.1⟩
end Go.Proofs.YtehfcboiimdkbaaGreatDoor
