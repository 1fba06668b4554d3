/- (cut by gen_eshows.py) (meta.reply).value and meta.Reply, walked. Printed by gen_ereply.py. -/
import Derived.Test.YtlaagebdbcmckaaGreatDoorCEtold
namespace Go.Proofs.YtlaagebdbcmckaaGreatDoor
set_option linter.unusedSimpArgs false
set_option linter.unusedVariables false
set_option linter.unusedSimpArgs false
set_option linter.unusedVariables false
set_option maxHeartbeats 8000000
open Go.RowKit
set_option maxRecDepth 100000
def rowTold (X : Xq) (r : Mq) (a : An) (now : Int) (en : List EN) : List SV → Option (Prop × SV)
  | [.g l, .c (.b much), .c (.sl c 0 n m)] => match zD en c with
    | some ⟨(t, o, iv), cells, _⟩ => match strsOf cells with
      | some ws => some (l = rpS X r a now ∧ t = 9 ∧ o = 0 ∧ iv = whole ∧ n = ws.length ∧ m = ws.length ∧ ws ≠ [] ∧ ws.length ≤ 100 ∧ (∀ x ∈ ws, x.length ≤ 5001), .c (.s (toldT r a now much ws)))
      | none => none
    | none => none
  | _ => none
def rowHasV (X : Xq) (r : Mq) (a : An) (now : Int) : List SV → Option (Prop × SV)
  | [.g l, .c (.s [118])] => some (l = rpS X r a now, .c (.b (hasF r 118)))
  | _ => none
def rowLoud (X : Xq) (r : Mq) (a : An) (now : Int) : List SV → Option (Prop × SV)
  | [.g l, .c (.s s)] => some (l = rpS X r a now, .c (.s (loudT r s)))
  | _ => none
def rvC (X : Xq) (r : Mq) (a : An) (now : Int) : Ctr := fun f en xs => match f with
  | 36 => rowTold X r a now en xs
  | 37 => rowHasV X r a now xs
  | 35 => rowLoud X r a now xs
  | _ => tdC X r a now f en xs
theorem rvC_ok {C : Cx} {X : Xq} {r : Mq} {a : An} {now : Int} (hP : C.P = Tryz.prog) (hE : EnvC C) (hok : RpOk r a now) (hn : X.fn = r.flags.length) (hF : ∀ w, Upd C.S C.w0 w → RawT w X.fa r.flags) : CtrOk C (rvC X r a now) := by
  intro f en xs p v h hp ρ w hup hHp hHo hinj hwf
  unfold rvC at h
  split at h
  · rw [hP]
    refine ⟨fun args w => Tryz.call36 args w, ?_⟩
    unfold rowTold at h
    split at h <;> try cases h
    rename_i l much c n m
    split at h <;> try cases h
    rename_i t o iv cells mu hN
    split at h <;> simp only [Option.some.injEq, Prod.mk.injEq, reduceCtorEq] at h
    rename_i ws hs
    obtain ⟨rfl, rfl⟩ := h
    obtain ⟨rfl, rfl, rfl, rfl, rfl, rfl, hne, hwl, hwx⟩ := hp
    have hc := strsOf_eq hs
    subst hc
    have lN : c < en.length := by rw [nthS_eq] at hN; exact (List.getElem?_eq_some_iff.1 hN).1
    have hnl : (ρ c).nl = none := Decidable.byContradiction fun hd => by
      have := (hHp c _ _ _ lN hN).non hd
      exact hne (List.map_eq_nil_iff.1 this)
    obtain ⟨_, h1, h2⟩ := hHo c _ _ _ lN hN
    have hb := (hHp c _ _ _ lN hN).heap ⟨by show ¬ ((9 : Nat) = DEAD); decide, hnl⟩
    rw [h1, h2, List.nil_append, List.append_nil, st_den] at hb
    refine ⟨trivial, ?_⟩
    have e : (SC.sl c 0 ws.length ws.length).den ρ = .slice (some ⟨(ρ c).blk, 0, none⟩) ws.length ws.length := by simp only [SC.den, h1]; rfl
    have := told_w (X := X) (g := (ρ c).blk) (ws := ws) much hok hn (hF w hup) (hE w hup) hne hwl hwx hb
    show Calls _ _ #[_, _, _] _ _
    rw [show (SV.c (SC.sl c 0 ws.length ws.length)).den ρ = _ from e]
    exact this
  · rw [hP]
    refine ⟨fun args w => Tryz.call37 args w, ?_⟩
    unfold rowHasV at h
    split at h <;> simp only [Option.some.injEq, Prod.mk.injEq, reduceCtorEq] at h
    obtain ⟨rfl, rfl⟩ := h
    subst hp
    exact ⟨trivial, has_w hok hn (hF w hup)⟩
  · rw [hP]
    refine ⟨fun args w => Tryz.call35 args w, ?_⟩
    unfold rowLoud at h
    split at h <;> simp only [Option.some.injEq, Prod.mk.injEq, reduceCtorEq] at h
    obtain ⟨rfl, rfl⟩ := h
    subst hp
    exact ⟨trivial, loud_w _⟩
  · exact tdC_ok hP hE hok f en xs p v h hp ρ w hup hHp hHo hinj hwf
theorem toldT_le {r : Mq} {a : An} {now : Int} (hok : RpOk r a now) (much : Bool) {ws : List (List UInt8)} (hwl : ws.length ≤ 100) (hwx : ∀ x ∈ ws, x.length ≤ 5001) : (toldT r a now much ws).length ≤ 30000000 := by
  have hfl : (r.flags.flatMap (flagT r a now much)).length ≤ r.flags.length ∧ ∀ x ∈ r.flags.flatMap (flagT r a now much), x.length ≤ 5001 := by
    have lf := hok.lf
    generalize r.flags = F at lf
    induction F with
    | nil => simp
    | cons f F ih =>
      obtain ⟨i1, i2⟩ := ih fun g hg => lf g (by simp [hg])
      obtain ⟨g1, g2⟩ := flagT_le (much := much) hok (lf f (by simp))
      rw [List.flatMap_cons]
      refine ⟨by rw [List.length_append, List.length_cons]; omega, fun x hx => ?_⟩
      rcases List.mem_append.1 hx with hx | hx
      · exact g2 x hx
      · exact i2 x hx
  have hm : (marksT a much).length ≤ 3 ∧ ∀ x ∈ marksT a much, x.length ≤ 5001 := by
    unfold marksT
    cases much <;> cases a.w <;> cases a.x <;> cases a.z <;> simp
  have hall : ∀ x ∈ ws ++ r.flags.flatMap (flagT r a now much) ++ marksT a much, x.length ≤ 5001 := by
    intro x hx
    rcases List.mem_append.1 hx with hx | hx
    · rcases List.mem_append.1 hx with hx | hx
      · exact hwx x hx
      · exact hfl.2 x hx
    · exact hm.2 x hx
  have hj := join_le hall
  have hl : (ws ++ r.flags.flatMap (flagT r a now much) ++ marksT a much).length ≤ 5200 := by
    rw [List.length_append, List.length_append]
    have := hok.nf
    omega
  have h2 : (ws ++ r.flags.flatMap (flagT r a now much) ++ marksT a much).length * (5001 + 1) ≤ 5200 * 5002 := Nat.mul_le_mul_right _ hl
  show (joinW _ ++ crlf).length ≤ _
  rw [List.length_append, show crlf.length = 2 from rfl]
  omega
theorem told_h {C : Cx} {nE c : Nat} {mk : Nat → Prop} {en : List EN} {X : Xq} {r : Mq} {a : An} {now : Int} {much mu : Bool} {ws : List (List UInt8)} (hP : C.P = Tryz.prog) (hE : EnvC C) (hok : RpOk r a now) (hn : X.fn = r.flags.length) (hF : ∀ w, Upd C.S C.w0 w → RawT w X.fa r.flags) (hmk : ∀ q, ¬ mk q) (hws : ws ≠ []) (hwl : ws.length ≤ 100) (hwx : ∀ x ∈ ws, x.length ≤ 5001) (hN : zD en c = some ⟨(9, 0, whole), ws.map SC.s, mu⟩) :
    HCall C nE mk en en 36 [.g (rpS X r a now), .c (.b much), .c (.sl c 0 ws.length ws.length)] (.c (.s (toldT r a now much ws))) := by
  refine soft_h (fun args w => by rw [hP]; exact Tryz.call36 args w) hmk fun ρ pr w hw _ hx => ⟨trivial, ?_⟩
  have lN : pr c := hx (.c (.sl c 0 ws.length ws.length)) (by simp)
  have hnl : (ρ c).nl = none := Decidable.byContradiction fun hd => by
    have := (hw.hp c _ _ _ lN hN).non hd
    exact hws (List.map_eq_nil_iff.1 this)
  obtain ⟨_, h1, h2⟩ := hw.ho c _ _ _ lN hN
  have hb := (hw.hp c _ _ _ lN hN).heap ⟨by show ¬ ((9 : Nat) = DEAD); decide, hnl⟩
  rw [h1, h2, List.nil_append, List.append_nil, st_den] at hb
  have e : (SC.sl c 0 ws.length ws.length).den ρ = .slice (some ⟨(ρ c).blk, 0, none⟩) ws.length ws.length := by simp only [SC.den, h1]; rfl
  have := told_w (X := X) (g := (ρ c).blk) (ws := ws) much hok hn (hF w hw.up) (hE w hw.up) hws hwl hwx hb
  rw [hP]
  show Calls _ _ #[_, _, _] _ _
  rw [show (SV.c (SC.sl c 0 ws.length ws.length)).den ρ = _ from e]
  exact this
section
variable {X : Xq} {r : Mq} {a : An} {now : Int} {w : World}
theorem value_w (hok : RpOk r a now) (hn : X.fn = r.flags.length) (hraw : RawT w X.fa r.flags) (hE0 : Env w) : Calls Tryz.prog 34 #[rpV X r a now] w fun e w' => e = .returned (.string ⟨(valueT r a now).toArray⟩) ∧ Below w.heap.size w w' := by
  refine calls_of_Run Tryz.func34 rfl kp34 (S := Non) (ρ := fun _ => reOf 0) (en := []) [.g (rpS X r a now)] Tryz.ntmps34 (At.nil _ _ _) (by simp only [List.mem_singleton, forall_eq]; exact rp_wf _ _ _ _ _) (by simp) ?_
  intro C hC hP hk
  have hEC : EnvC C := fun w' hu => by rw [hC] at hu; exact hE0.below hu.to_below
  have hctr := rvC_ok (X := X) hP hEC hok hn (fun w' hu => by rw [hC] at hu; exact hraw.upd hu)
  have fin : ∀ l en, l = valueT r a now → Fin C res34 (.c (.s l)) en := fun l en hl => by subst hl; exact Fin_ro (v := .c (.s (valueT r a now))) hC hres34 rfl trivial
  have ls : (sizeT a.it).length ≤ 20 := dec_le20 (by have := hok.lv; omega)
  cases hv : hasF r 118 with
  | true =>
    have lv := hok.lv2 hv
    have hwx : ∀ x ∈ [[86, 65], sizeT a.it], x.length ≤ 5001 := fun x hx => by simp at hx; rcases hx with rfl | rfl; (· simp); (· omega)
    have lt := toldT_le hok true (ws := [[86, 65], sizeT a.it]) (by simp) hwx
    (refine VT_ok hctr (rs := res34) true 300 _ _ _ ?_; simp (maxSteps := 1000000) only [VT, jf, jg, jZ, ja, jd, je, VC, qA, qB, qC, qD, qE, qF, qG, qH, qI, qJ, qK, qL, qM, qN, qO, qP, qQ, qR, qS, qT, qU, qV, qW, qX, qY, qZ, qe, qf, qg, qh, qj, qk, ql, qm, qn, qo, qp, qq, q0t, qu, qv, ev, qw, qy, qz, zA, zB, zC, zD, zE, zF, zG, zH, zI, zJ, TE.sv, zK, zL, zM, ↓reduceIte, reduceCtorEq, Value.oneCell', Nat.reduceEqDiff, Nat.reduceAdd, Nat.reduceLT, Nat.reduceBEq, Nat.reduceSub, Nat.reduceLeDiff, zP, zQ, zR, zS, zT, zU, zV, zW, zX, zY, zZ, za, zb, zc, zd, ze, zf, zg, zh, zi, zj, zk, zl, zm, zn, zo, zp, zq, zr, zt, zu, zw, zx, zy, zz, cE, jA, jB, hap, killE, deadOf, rwE, cD, cO, jC, jD, jE, jF, jG, jH, jI, jJ, jK, jL, jM, jN, jO, jP, jQ, jR, jS, jT, jU, jV, jW, jX, jY, hP, hk, res34, kp34, rvC, rowTold, tdC, txC, rowText, rowReply, rowLine, rowJoinR, strsOf, rpS, xqS, anM, Int.toNat_natCast, Nat.mul_one, Nat.reduceMul, Int.le_refl, cond_true, cond_false, rowHasV, hv])
    (refine Run_drawE hctr (by rw [hP]; rfl) rs34_2 [fun en => (.c (.s (toldT r a now true [[86, 65], sizeT a.it])), en)] (ensure_type_of% (Cmp.of (by simp (maxSteps := 1000000) only [VC, qA, qB, qC, qD, qE, qF, qG, qH, qI, qJ, qK, qL, qM, qN, qO, qP, qQ, qR, qS, qT, qU, qV, qW, qX, qY, qZ, qe, qf, qg, qh, qj, qk, ql, qm, qn, qo, qp, qq, q0t, qu, qv, ev, qw, qy, qz, zA, zB, zC, zD, zE, zF, zG, zH, zI, zJ, TE.sv, zK, zL, zM, ↓reduceIte, reduceCtorEq, Value.oneCell', Nat.reduceEqDiff, Nat.reduceAdd, Nat.reduceLT, Nat.reduceBEq, Nat.reduceSub, Nat.reduceLeDiff, zP, zQ, zR, zS, zT, zU, zV, zW, zX, zY, zZ, za, zb, zc, zd, ze, zf, zg, zh, zi, zj, zk, zl, zm, zn, zo, zp, zq, zr, zt, zu, zw, zx, zy, zz, cE, jA, jB, hap, killE, deadOf, rwE, cD, cO, jC, jD, jE, jF, jG, jH, jI, jJ, jK, jL, jM, jN, jO, jP, jQ, jR, jS, jT, jU, jV, jW, jX, jY, hP, rvC, rowTold, tdC, txC, rowText, rowReply, rowLine, rowJoinR, strsOf, rpS, xqS, anM, Int.toNat_natCast, Nat.mul_one, Nat.reduceMul, Int.le_refl, cond_true, cond_false, rowHasV, hv]; rfl)) "" Cmp.mk) (by kernel_rfl) (by kernel_rfl) (by first | exact lenB_one _ | kernel_rfl) (by kernel_rfl) (by rfl) (by rfl) (by first | exact firstN_self _ | rfl) (by rfl) ?_ ?_; rotate_left; refine VT_ok hctr (rs := res34) true 300 _ _ _ ?_; simp (maxSteps := 1000000) only [VT, jf, jg, jZ, ja, jd, je, VC, qA, qB, qC, qD, qE, qF, qG, qH, qI, qJ, qK, qL, qM, qN, qO, qP, qQ, qR, qS, qT, qU, qV, qW, qX, qY, qZ, qe, qf, qg, qh, qj, qk, ql, qm, qn, qo, qp, qq, q0t, qu, qv, ev, qw, qy, qz, zA, zB, zC, zD, zE, zF, zG, zH, zI, zJ, TE.sv, zK, zL, zM, ↓reduceIte, reduceCtorEq, Value.oneCell', Nat.reduceEqDiff, Nat.reduceAdd, Nat.reduceLT, Nat.reduceBEq, Nat.reduceSub, Nat.reduceLeDiff, zP, zQ, zR, zS, zT, zU, zV, zW, zX, zY, zZ, za, zb, zc, zd, ze, zf, zg, zh, zi, zj, zk, zl, zm, zn, zo, zp, zq, zr, zt, zu, zw, zx, zy, zz, cE, jA, jB, hap, killE, deadOf, rwE, cD, cO, jC, jD, jE, jF, jG, jH, jI, jJ, jK, jL, jM, jN, jO, jP, jQ, jR, jS, jT, jU, jV, jW, jX, jY, hP, hk, res34, kp34, rvC, rowTold, tdC, txC, rowText, rowReply, rowLine, rowJoinR, strsOf, rpS, xqS, anM, Int.toNat_natCast, Nat.mul_one, Nat.reduceMul, Int.le_refl, cond_true, cond_false, rowHasV, hv]; rotate_left; simp (maxSteps := 1000000) only [VC, qA, qB, qC, qD, qE, qF, qG, qH, qI, qJ, qK, qL, qM, qN, qO, qP, qQ, qR, qS, qT, qU, qV, qW, qX, qY, qZ, qe, qf, qg, qh, qj, qk, ql, qm, qn, qo, qp, qq, q0t, qu, qv, ev, qw, qy, qz, zA, zB, zC, zD, zE, zF, zG, zH, zI, zJ, TE.sv, zK, zL, zM, ↓reduceIte, reduceCtorEq, Value.oneCell', Nat.reduceEqDiff, Nat.reduceAdd, Nat.reduceLT, Nat.reduceBEq, Nat.reduceSub, Nat.reduceLeDiff, zP, zQ, zR, zS, zT, zU, zV, zW, zX, zY, zZ, za, zb, zc, zd, ze, zf, zg, zh, zi, zj, zk, zl, zm, zn, zo, zp, zq, zr, zt, zu, zw, zx, zy, zz, cE, jA, jB, hap, killE, deadOf, rwE, cD, cO, jC, jD, jE, jF, jG, jH, jI, jJ, jK, jL, jM, jN, jO, jP, jQ, jR, jS, jT, jU, jV, jW, jX, jY, hP, rvC, rowTold, tdC, txC, rowText, rowReply, rowLine, rowJoinR, strsOf, rpS, xqS, anM, Int.toNat_natCast, Nat.mul_one, Nat.reduceMul, Int.le_refl, cond_true, cond_false, rowHasV, hv])
    · refine ⟨told_h hP hEC hok hn (fun w' hu => by rw [hC] at hu; exact hraw.upd hu) (mkC_no (by simp)) (by simp) (by simp) hwx rfl, by omega, by rw [List.length_append]; omega⟩
    exact fin _ _ (by unfold valueT; rw [hv]; rfl)
  | false =>
    (refine VT_ok hctr (rs := res34) true 300 _ _ _ ?_; simp (maxSteps := 1000000) only [VT, jf, jg, jZ, ja, jd, je, VC, qA, qB, qC, qD, qE, qF, qG, qH, qI, qJ, qK, qL, qM, qN, qO, qP, qQ, qR, qS, qT, qU, qV, qW, qX, qY, qZ, qe, qf, qg, qh, qj, qk, ql, qm, qn, qo, qp, qq, q0t, qu, qv, ev, qw, qy, qz, zA, zB, zC, zD, zE, zF, zG, zH, zI, zJ, TE.sv, zK, zL, zM, ↓reduceIte, reduceCtorEq, Value.oneCell', Nat.reduceEqDiff, Nat.reduceAdd, Nat.reduceLT, Nat.reduceBEq, Nat.reduceSub, Nat.reduceLeDiff, zP, zQ, zR, zS, zT, zU, zV, zW, zX, zY, zZ, za, zb, zc, zd, ze, zf, zg, zh, zi, zj, zk, zl, zm, zn, zo, zp, zq, zr, zt, zu, zw, zx, zy, zz, cE, jA, jB, hap, killE, deadOf, rwE, cD, cO, jC, jD, jE, jF, jG, jH, jI, jJ, jK, jL, jM, jN, jO, jP, jQ, jR, jS, jT, jU, jV, jW, jX, jY, hP, hk, res34, kp34, rvC, rowTold, tdC, txC, rowText, rowReply, rowLine, rowJoinR, strsOf, rpS, xqS, anM, Int.toNat_natCast, Nat.mul_one, Nat.reduceMul, Int.le_refl, cond_true, cond_false, rowHasV, hv])
    exact ⟨⟨fun h => h, fun x hx => by simp at hx; subst hx; simp⟩, fin _ _ (by unfold valueT; rw [hv]; rfl)⟩
def ryC (X : Xq) (r : Mq) (a : An) (now : Int) : Ctr := fun f en xs => match f with
  | 34 => rowReply valueT X r a now xs
  | _ => rvC X r a now f en xs
theorem ryC_ok {C : Cx} (hP : C.P = Tryz.prog) (hE : EnvC C) (hok : RpOk r a now) (hn : X.fn = r.flags.length) (hF : ∀ w, Upd C.S C.w0 w → RawT w X.fa r.flags) : CtrOk C (ryC X r a now) := by
  intro f en xs p v h hp ρ w hup hHp hHo hinj hwf
  unfold ryC at h
  split at h
  · rw [hP]
    refine ⟨fun args w => Tryz.call34 args w, ?_⟩
    unfold rowReply at h
    split at h <;> simp only [Option.some.injEq, Prod.mk.injEq, reduceCtorEq] at h
    obtain ⟨rfl, rfl⟩ := h
    subst hp
    exact ⟨trivial, value_w hok hn (hF w hup) (hE w hup)⟩
  · exact rvC_ok hP hE hok hn hF f en xs p v h hp ρ w hup hHp hHo hinj hwf
theorem xq_wf (pr : Nat → Prop) (X : Xq) (r : Mq) : wfs pr (xqS X r) := by
  intro x hx
  simp only [xqS, List.mem_cons, List.not_mem_nil, or_false] at hx
  rcases hx with rfl | rfl | rfl | rfl | rfl | rfl | rfl | rfl | rfl | rfl | rfl <;> trivial
theorem anM_wf (pr : Nat → Prop) (a : An) : wfs pr (anM a) := by
  intro x hx
  simp only [anM, List.mem_cons, List.not_mem_nil, or_false] at hx
  rcases hx with rfl | rfl | rfl | rfl | rfl | rfl | rfl | rfl | rfl | rfl | rfl | rfl | rfl <;> trivial
theorem replyS_w (hok : RpOk r a now) (hn : X.fn = r.flags.length) (hraw : RawT w X.fa r.flags) (hE0 : Env w) (h1 : r.kind = 1) (n1 : r.name = [109, 103]) (s1 : a.st = 1) : Calls Tryz.prog 14 #[(SV.g (xqS X r)).den (fun _ => reOf 0), (SV.g (anM a)).den (fun _ => reOf 0), .int .i64 now] w fun e w' => e = .returned (.string ⟨(mReply r a now).toArray⟩) ∧ Below w.heap.size w w' := by
  refine calls_of_Run Tryz.func14 rfl kp14 (S := Non) (ρ := fun _ => reOf 0) (en := []) [.g (xqS X r), .g (anM a), .c (.i .i64 now)] Tryz.ntmps14 (At.nil _ _ _) (by simp only [List.mem_cons, List.not_mem_nil, or_false, forall_eq_or_imp, forall_eq]; exact ⟨xq_wf _ _ _, anM_wf _ _, trivial⟩) (by simp) ?_
  intro C hC hP hk
  have hEC : EnvC C := fun w' hu => by rw [hC] at hu; exact hE0.below hu.to_below
  have hF : ∀ w', Upd C.S C.w0 w' → RawT w' X.fa r.flags := fun w' hu => by rw [hC] at hu; exact hraw.upd hu
  have hctr := ryC_ok (X := X) hP hEC hok hn hF
  have fin : ∀ l en, mReply r a now = l → Fin C res14 (.c (.s l)) en := fun l en hl => by subst hl; exact Fin_ro (v := .c (.s (mReply r a now))) hC hres14 rfl trivial
  have ls : (sizeT a.it).length ≤ 20 := dec_le20 (by have := hok.lv; omega)
  have lc := dec_le20 (n := a.it.cas.toNat) (by have := hok.c1; omega)
  have ll : (leftT a.it now).length ≤ 20 := by
    unfold leftT
    split
    · simp
    · refine dec_le20 ?_
      have := hok.e1
      split <;> omega
  have lw := hok.lw
  have k0 := hok.c0
  have k1 := hok.c1
  have jl : ∀ x : List UInt8, x.length ≤ 5001 → (joinW [x]).length ≤ 140737488355328 := fun x hx => by
    have := join_le (ws := [x]) (B := 5001) (fun y hy => by simp at hy; subst hy; exact hx)
    simp at this; omega
  have h7 : ¬ r.kind = 7 := by rw [h1]; decide
  have f7 : (r.kind == 7) = false := by rw [h1]; rfl
  have f1 : (r.kind == 1) = true := by rw [h1]; rfl
  have za : (a.st == 11) = false := by rw [s1]; rfl
  have zb : (a.st == 12) = false := by rw [s1]; rfl
  have e7 : (a.st == 7) = false := by rw [s1]; rfl
  have g1 : (r.name == [109, 103]) = true := by rw [n1]; rfl
  have g0 : (r.name == [109, 101]) = false := by rw [n1]; rfl
  have g2 : (r.name == [109, 115]) = false := by rw [n1]; rfl
  have g3 : (r.name == [109, 100]) = false := by rw [n1]; rfl
  have g4 : (r.name == [109, 97]) = false := by rw [n1]; rfl
  have e1 : (a.st == 1) = true := by rw [s1]; rfl
  have e5 : (a.st == 5) = false := by rw [s1]; rfl
  have e2 : (a.st == 2) = false := by rw [s1]; rfl
  have e9 : (a.st == 9) = false := by rw [s1]; rfl
  (refine VT_ok hctr (rs := res14) true 300 _ _ _ ?_; simp (maxSteps := 1000000) only [VT, jf, jg, jZ, ja, jd, je, VC, qA, qB, qC, qD, qE, qF, qG, qH, qI, qJ, qK, qL, qM, qN, qO, qP, qQ, qR, qS, qT, qU, qV, qW, qX, qY, qZ, qe, qf, qg, qh, qj, qk, ql, qm, qn, qo, qp, qq, q0t, qu, qv, ev, qw, qy, qz, zA, zB, zC, zD, zE, zF, zG, zH, zI, zJ, TE.sv, zK, zL, zM, ↓reduceIte, reduceCtorEq, Value.oneCell', Nat.reduceEqDiff, Nat.reduceAdd, Nat.reduceLT, Nat.reduceBEq, Nat.reduceSub, Nat.reduceLeDiff, zP, zQ, zR, zS, zT, zU, zV, zW, zX, zY, zZ, za, zb, zc, zd, ze, zf, zg, zh, zi, zj, zk, zl, zm, zn, zo, zp, zq, zr, zt, zu, zw, zx, zy, zz, cE, jA, jB, hap, killE, deadOf, rwE, cD, cO, jC, jD, jE, jF, jG, jH, jI, jJ, jK, jL, jM, jN, jO, jP, jQ, jR, jS, jT, jU, jV, jW, jX, jY, hP, hk, res14, kp14, ryC, rvC, rowTold, tdC, txC, rowText, rowReply, rowLine, rowJoinR, strsOf, rpS, xqS, anM, Int.toNat_natCast, Nat.mul_one, Nat.reduceMul, Int.le_refl, cond_true, cond_false, rowLoud, rowHasV, lb1, lb2, lb3, lb4, u8b, UInt8.reduceToNat, f7, f1, g0, g1, g2, g3, g4, za, zb, e7, e1, e5, e2, e9])
  exact fin _ _ (by simp [mReply, h1, n1, m_me, m_mg, m_ms, m_md, m_ma, s1])
end
end Go.Proofs.YtlaagebdbcmckaaGreatDoor
