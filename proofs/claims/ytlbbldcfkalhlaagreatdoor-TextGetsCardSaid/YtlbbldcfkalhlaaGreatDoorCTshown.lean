/- text.Parse as a call of a walk; Report of nothing; shown. -/
import Derived.Test.YtlbbldcfkalhlaaGreatDoorCTparse
import Derived.Test.YtlbbldcfkalhlaaGreatDoorCShelfK
import Derived.Test.YtlbbldcfkalhlaaGreatDoorBC
namespace Go.Proofs.YtlbbldcfkalhlaaGreatDoor
set_option linter.unusedSimpArgs false
set_option linter.unusedVariables false
set_option linter.unusedSimpArgs false
set_option linter.unusedVariables false
set_option maxHeartbeats 8000000
open Go.RowKit
set_option maxRecDepth 100000

/-- what Parse hands back, for a walk -/
def psV (x : Rq × Int) (N : Nat) : SV := .t [.g (rqS (.rw N x.1.cmds.length) x.1), .c (.i .i64 x.2)]
def psE (x : Rq × Int) : EN := rwE 37 16 x.1.cmds.length (flatG rcS x.1.cmds)
theorem parse_h {C : Cx} {nE N : Nat} {mk : Nat → Prop} {en en' : List EN} (b : List UInt8) {x : Rq × Int} (hx : tParse b = x) (hb : b.length ≤ 9223372036854775807) (hP : C.P = Tryz.prog) (hE : ∀ w, Upd C.S C.w0 w → EnvT w) (hmk : ∀ q, mk q ↔ q = N) (hn0 : C.n0 ≤ N) (hN : zD en' N = some (psE x)) (hq : ∀ q, q ≠ N → zD en' q = zD en q) :
    HCall C nE mk en en' 10 [.c (.s b)] (psV x N) := by
  refine fresh_h (vals := x.1.cmds.flatMap rcA) (fun args w => by rw [hP]; exact Tryz.call10 args w) hmk hn0 hN hq (by show ¬ (37 : Nat) = DEAD; decide) (fun ρ => rc_den ρ _) (fun pr => rc_wf pr _) (fun pr h => ?_) ?_
  · intro y hy
    simp only [List.mem_cons, List.not_mem_nil, or_false] at hy
    rcases hy with rfl | rfl
    · intro z hz
      simp only [rqS, List.mem_cons, List.not_mem_nil, or_false] at hz
      rcases hz with rfl | rfl | rfl | rfl | rfl | rfl | rfl | rfl | rfl | rfl | rfl
      case inr.inl => exact h
      all_goals trivial
    · trivial
  · intro ρ pr w hw _ _
    rw [hP]
    refine (parse_w b hb w (hE w hw.up)).mono ?_
    rintro z w' ⟨hbl, v, rfl, cv, rfl, hcv⟩
    rw [hx] at hcv ⊢
    have hv : ∀ ρ' : Nat → RE, (SC.rw N x.1.cmds.length).den ρ' = cv → Ending.returned (.tuple #[rqA cv x.1, .int .i64 x.2]) = .returned ((psV x N).den ρ') := fun ρ' h => by
      show _ = Ending.returned (.tuple #[rqA ((SC.rw N x.1.cmds.length).den ρ') x.1, _])
      rw [h]; rfl
    have hl : (flatG rcS x.1.cmds).length = x.1.cmds.length * 16 := flatG_len rcS_len _
    rcases hcv with ⟨h0, rfl⟩ | ⟨h0, g, cap, rest, rfl, h1, h2, h3, h4, h5⟩
    · have hc0 : x.1.cmds.length = 0 := by rw [h0]; rfl
      refine ⟨⟨w.heap.size, [], [], 0, some none⟩, ⟨rfl, ⟨hl, .inr ⟨rfl, hc0, rfl⟩⟩, (fun h => by cases h), (fun _ => by show flatG rcS x.1.cmds = []; rw [h0]; rfl), (fun _ => Nat.le_refl _)⟩, fun ρ' _ hr => hv ρ' ?_, hbl⟩
      show rwOf (ρ' N) _ = _
      rw [hr, hc0]; rfl
    · refine ⟨⟨g, [], rest, cap, none⟩, ⟨rfl, ⟨hl, .inl ⟨rfl, rfl, ?_, h4, h5⟩⟩, fun _ => ⟨h1, h2⟩, (fun h => absurd rfl h), (fun h => absurd rfl h)⟩, fun ρ' _ hr => hv ρ' ?_, hbl⟩
      · rw [← h3, List.length_append, ← rc_den (fun _ => reOf 0), dens_len]
      · show rwOf (ρ' N) _ = _
        rw [hr]; rfl
/-- in a region that follows the text -/
theorem Run_parse {C : Cx} {nt : Nat} {sl : List (Nat × SV)} {en : List EN} {k : List KI} {dst : Option Nat} {ty : TypeId} {pos : String} {af : Array Edge} {all r : List Oper} {args : Array Operand} {tys : Array TypeId} (b : List UInt8) {x : Rq × Int} (hx : tParse b = x) (hb : b.length ≤ 9223372036854775807) (hP : C.P = Tryz.prog) (hE : ∀ w, Upd C.S C.w0 w → EnvT w) (hn0 : C.n0 ≤ zG en)
    (hxs : qw sl args.toList = some [.c (.s b)]) (hd : ∀ d, dst = some d → d < nt) (hK : Run C (.ops all r :: k) nt (jN dst (psV x (zG en)) sl) (zF en (psE x))) :
    Run C (.ops all (⟨dst, .call ⟨.value (.func 10), args, tys⟩, ty, pos, af, none⟩ :: r) :: k) nt sl en := by
  have hl : zG (zF en (psE x)) = zG en + 1 := len_snoc
  refine Run_hcall hxs (psV x (zG en)) (zF en (psE x)) (parse_h b hx hb hP hE (mk_new hl) hn0 nth_snoc (fun q hq => nth_snoc_ne hq)) (by rw [hl]; omega) hd hK

/-! ### Report of nothing -/
def rowBStr (en : List EN) : List SV → Option (Prop × SV)
  | [.c (.p c 0)] => match zD en c with
    | some ⟨(t, o, iv), [.v (.pointer none), .v (.slice none 0 0)], _⟩ => some (t = 73 ∧ o = 0 ∧ iv = whole, .c (.s []))
    | _ => none
  | _ => none
def bsC : Ctr := fun f en xs => match f with
  | 30 => rowBStr en xs
  | _ => none
theorem bsC_ok {C : Cx} (hP : C.P = Tryz.prog) : CtrOk C bsC := by
  intro f en xs p v h hp ρ w hup hHp hHo hinj hwf
  unfold bsC at h
  split at h
  · rw [hP]
    refine ⟨fun args w => Tryz.call30 args w, ?_⟩
    unfold rowBStr at h
    split at h <;> try cases h
    rename_i c
    split at h <;> simp only [Option.some.injEq, Prod.mk.injEq, reduceCtorEq] at h
    rename_i t o iv mu he
    obtain ⟨rfl, rfl⟩ := h
    obtain ⟨rfl, rfl, rfl⟩ := hp
    have hc : c < en.length := hwf _ (List.mem_cons_self ..)
    obtain ⟨k1, k2, _⟩ := ent_blk hHp hHo hc he (by decide) (by simp)
    refine ⟨trivial, ?_⟩
    have := Any.Builder_String_nil Tryz.lays169 Tryz.Builder_Extra_169 w.heap.size (ρ c).blk (.pointer none) w k1
    simp only [List.map_cons, List.map_nil, SV.den, SC.den, k2]
    exact this
  · cases h
theorem report_nil (w : World) : Calls Tryz.prog 18 #[.slice none 0 0] w fun e w' => e = .returned (.string ⟨b_end.toArray⟩) ∧ Below w.heap.size w w' := by
  refine calls_of_Run Tryz.func18 rfl kp18 (S := Non) (ρ := fun _ => reOf 0) (en := []) [.c (.v (.slice none 0 0))] Tryz.ntmps18 (At.nil _ _ _) (by simp [SV.wf, SC.wf]) (by simp) ?_
  intro C hC hP hk
  have hctr := bsC_ok hP
  (refine VT_ok hctr (rs := res18) true 200 _ _ _ ?_; simp (maxSteps := 1000000) only [VT, jf, jg, jZ, ja, jd, je, VC, qA, qB, qC, qD, qE, qF, qG, qH, qI, qJ, qK, qL, qM, qN, qO, qP, qQ, qR, qS, qT, qU, qV, qW, qX, qY, qZ, qe, qf, qg, qh, qj, qk, ql, qm, qn, qo, qp, qq, qt, qu, qv, ev, qw, qy, qz, zA, zB, zC, zD, zE, zF, zG, zH, zI, zJ, TE.sv, zK, zL, zM, ↓reduceIte, reduceCtorEq, Value.oneCell', Nat.reduceEqDiff, Nat.reduceAdd, Nat.reduceLT, Nat.reduceBEq, Nat.reduceSub, Nat.reduceLeDiff, zP, zQ, zR, zS, zT, zU, zV, zW, zX, zY, zZ, za, zb, zc, zd, ze, zf, zg, zh, zi, zj, zk, zl, zm, zn, zo, zp, zq, zr, zt, zu, zw, zx, zy, zz, cE, jA, jB, hap, killE, deadOf, rwE, cD, cO, jC, jD, jE, jF, jG, jH, jI, jJ, jK, jL, jM, jN, jO, jP, jQ, jR, jS, jT, jU, jV, jW, jX, jY, hP, hk, res18, kp18, bsC, rowBStr])
  refine Run_loopP (ι := Unit) (fun _ => [(8, .c (.i .i64 0)), (7, .c (.i .i64 ((0 : Nat) : Int))), (3, .c (.p 0 0))]) (fun _ => [⟨(73, 0, whole), [.v (.pointer none), .v (.slice none 0 0)], true⟩]) (fun _ => 0) () (sub_mk ⟨rfl, rfl, rfl, trivial⟩) rfl ?_
  intro _ D dP dS dw dn dr dk ddf dPan dRet hX hJ
  have hP0 := hP; have hk0 := hk; have hctr0 := hctr
  have hP : D.P = Tryz.prog := by rw [dP]; exact hP0
  have hk : D.kp = kp18 := by rw [dk]; exact hk0
  have hctr := bsC_ok hP
  have c1 : decide ((0 : Int) < ((0 : Nat) : Int)) = false := rfl
  (refine VT_ok hctr (rs := res18) true 200 _ _ _ ?_; simp (maxSteps := 1000000) only [VT, jf, jg, jZ, ja, jd, je, VC, qA, qB, qC, qD, qE, qF, qG, qH, qI, qJ, qK, qL, qM, qN, qO, qP, qQ, qR, qS, qT, qU, qV, qW, qX, qY, qZ, qe, qf, qg, qh, qj, qk, ql, qm, qn, qo, qp, qq, qt, qu, qv, ev, qw, qy, qz, zA, zB, zC, zD, zE, zF, zG, zH, zI, zJ, TE.sv, zK, zL, zM, ↓reduceIte, reduceCtorEq, Value.oneCell', Nat.reduceEqDiff, Nat.reduceAdd, Nat.reduceLT, Nat.reduceBEq, Nat.reduceSub, Nat.reduceLeDiff, zP, zQ, zR, zS, zT, zU, zV, zW, zX, zY, zZ, za, zb, zc, zd, ze, zf, zg, zh, zi, zj, zk, zl, zm, zn, zo, zp, zq, zr, zt, zu, zw, zx, zy, zz, cE, jA, jB, hap, killE, deadOf, rwE, cD, cO, jC, jD, jE, jF, jG, jH, jI, jJ, jK, jL, jM, jN, jO, jP, jQ, jR, jS, jT, jU, jV, jW, jX, jY, hP, hk, res18, kp18, bsC, rowBStr, c1])
  refine hX rfl rfl ?_
  have hP := hP0; have hk := hk0; have hctr := hctr0
  (refine VT_ok hctr (rs := res18) true 200 _ _ _ ?_; simp (maxSteps := 1000000) only [VT, jf, jg, jZ, ja, jd, je, VC, qA, qB, qC, qD, qE, qF, qG, qH, qI, qJ, qK, qL, qM, qN, qO, qP, qQ, qR, qS, qT, qU, qV, qW, qX, qY, qZ, qe, qf, qg, qh, qj, qk, ql, qm, qn, qo, qp, qq, qt, qu, qv, ev, qw, qy, qz, zA, zB, zC, zD, zE, zF, zG, zH, zI, zJ, TE.sv, zK, zL, zM, ↓reduceIte, reduceCtorEq, Value.oneCell', Nat.reduceEqDiff, Nat.reduceAdd, Nat.reduceLT, Nat.reduceBEq, Nat.reduceSub, Nat.reduceLeDiff, zP, zQ, zR, zS, zT, zU, zV, zW, zX, zY, zZ, za, zb, zc, zd, ze, zf, zg, zh, zi, zj, zk, zl, zm, zn, zo, zp, zq, zr, zt, zu, zw, zx, zy, zz, cE, jA, jB, hap, killE, deadOf, rwE, cD, cO, jC, jD, jE, jF, jG, jH, jI, jJ, jK, jL, jM, jN, jO, jP, jQ, jR, jS, jT, jU, jV, jW, jX, jY, hP, hk, res18, kp18, bsC, rowBStr, List.nil_append, List.length_nil, List.length_cons])
  exact Fin_ro (v := .c (.s b_end)) hC hres18 rfl trivial
def rowRep : List SV → Option (Prop × SV)
  | [.c (.v (.slice none 0 0))] => some (True, .c (.s b_end))
  | _ => none
/-! ### shown -/
theorem sh1 : tParse [115, 101, 116, 32, 107, 32, 49, 32, 48, 32, 50, 13, 10, 97, 98, 13, 10] = (⟨1, [⟨2, 0, [107], [97, 98], 1, 0, false, 0, false, 0, 0, false, false, 0, -1, false⟩], false, false, [], [], 0, false, []⟩, 17) := by kernel_rfl
theorem sh2 : tParse [115, 101, 116, 32, 107, 32, 49, 32, 48, 32, 50, 13, 10, 97, 98, 13] = (Rq.zero, 0) := by kernel_rfl
theorem sh3 : tParse [103, 101, 116, 10] = (badR f_unknown, 4) := by kernel_rfl
theorem sh4 : tParse [115, 101, 116, 32, 107, 32, 120, 32, 48, 32, 50, 13, 10] = ({ badR f_format with skip := 4 }, 13) := by kernel_rfl
def shC : Ctr := fun f _ xs => match f with
  | 18 => rowRep xs
  | _ => none
theorem shC_ok {C : Cx} (hP : C.P = Tryz.prog) : CtrOk C shC := by
  intro f en xs p v h hp ρ w hup hHp hHo hinj hwf
  unfold shC at h
  split at h
  · rw [hP]
    refine ⟨fun args w => Tryz.call18 args w, ?_⟩
    unfold rowRep at h
    split at h <;> simp only [Option.some.injEq, Prod.mk.injEq, reduceCtorEq] at h
    obtain ⟨_, rfl⟩ := h
    exact ⟨trivial, report_nil w⟩
  · cases h
theorem shown_w (w : World) (hE0 : EnvT w) : Calls Tryz.prog 9 #[] w fun e w' => e = .returned (.bool true) ∧ Below w.heap.size w w' := by
  refine calls_of_Run Tryz.func9 rfl kp9 (S := Non) (ρ := fun _ => reOf 0) (en := []) [] Tryz.ntmps9 (At.nil _ _ _) (by simp) (by simp) ?_
  intro C hC hP hk
  have hctr := shC_ok hP
  have hE : ∀ w', Upd C.S C.w0 w' → EnvT w' := fun w' hu => by rw [hC] at hu; exact hE0.below hu.to_below
  have hn0 : C.n0 = 0 := by rw [hC]; rfl
  (refine VT_ok hctr (rs := res9) true 300 _ _ _ ?_; simp (maxSteps := 1000000) only [VT, jf, jg, jZ, ja, jd, je, VC, qA, qB, qC, qD, qE, qF, qG, qH, qI, qJ, qK, qL, qM, qN, qO, qP, qQ, qR, qS, qT, qU, qV, qW, qX, qY, qZ, qe, qf, qg, qh, qj, qk, ql, qm, qn, qo, qp, qq, qt, qu, qv, ev, qw, qy, qz, zA, zB, zC, zD, zE, zF, zG, zH, zI, zJ, TE.sv, zK, zL, zM, ↓reduceIte, reduceCtorEq, Value.oneCell', Nat.reduceEqDiff, Nat.reduceAdd, Nat.reduceLT, Nat.reduceBEq, Nat.reduceSub, Nat.reduceLeDiff, zP, zQ, zR, zS, zT, zU, zV, zW, zX, zY, zZ, za, zb, zc, zd, ze, zf, zg, zh, zi, zj, zk, zl, zm, zn, zo, zp, zq, zr, zt, zu, zw, zx, zy, zz, cE, jA, jB, hap, killE, deadOf, rwE, cD, cO, jC, jD, jE, jF, jG, jH, jI, jJ, jK, jL, jM, jN, jO, jP, jQ, jR, jS, jT, jU, jV, jW, jX, jY, hP, hk, res9, kp9, shC])
  refine Run_parse _ sh1 (by simp) hP hE (by rw [hn0]; exact Nat.zero_le _) rfl (by simp) ?_
  (refine VT_ok hctr (rs := res9) true 300 _ _ _ ?_; simp (maxSteps := 1000000) only [VT, jf, jg, jZ, ja, jd, je, VC, qA, qB, qC, qD, qE, qF, qG, qH, qI, qJ, qK, qL, qM, qN, qO, qP, qQ, qR, qS, qT, qU, qV, qW, qX, qY, qZ, qe, qf, qg, qh, qj, qk, ql, qm, qn, qo, qp, qq, qt, qu, qv, ev, qw, qy, qz, zA, zB, zC, zD, zE, zF, zG, zH, zI, zJ, TE.sv, zK, zL, zM, ↓reduceIte, reduceCtorEq, Value.oneCell', Nat.reduceEqDiff, Nat.reduceAdd, Nat.reduceLT, Nat.reduceBEq, Nat.reduceSub, Nat.reduceLeDiff, zP, zQ, zR, zS, zT, zU, zV, zW, zX, zY, zZ, za, zb, zc, zd, ze, zf, zg, zh, zi, zj, zk, zl, zm, zn, zo, zp, zq, zr, zt, zu, zw, zx, zy, zz, cE, jA, jB, hap, killE, deadOf, rwE, cD, cO, jC, jD, jE, jF, jG, jH, jI, jJ, jK, jL, jM, jN, jO, jP, jQ, jR, jS, jT, jU, jV, jW, jX, jY, hP, hk, res9, kp9, shC, psV, psE, rqS])
  refine Run_parse _ sh2 (by simp) hP hE (by rw [hn0]; exact Nat.zero_le _) rfl (by simp) ?_
  (refine VT_ok hctr (rs := res9) true 300 _ _ _ ?_; simp (maxSteps := 1000000) only [VT, jf, jg, jZ, ja, jd, je, VC, qA, qB, qC, qD, qE, qF, qG, qH, qI, qJ, qK, qL, qM, qN, qO, qP, qQ, qR, qS, qT, qU, qV, qW, qX, qY, qZ, qe, qf, qg, qh, qj, qk, ql, qm, qn, qo, qp, qq, qt, qu, qv, ev, qw, qy, qz, zA, zB, zC, zD, zE, zF, zG, zH, zI, zJ, TE.sv, zK, zL, zM, ↓reduceIte, reduceCtorEq, Value.oneCell', Nat.reduceEqDiff, Nat.reduceAdd, Nat.reduceLT, Nat.reduceBEq, Nat.reduceSub, Nat.reduceLeDiff, zP, zQ, zR, zS, zT, zU, zV, zW, zX, zY, zZ, za, zb, zc, zd, ze, zf, zg, zh, zi, zj, zk, zl, zm, zn, zo, zp, zq, zr, zt, zu, zw, zx, zy, zz, cE, jA, jB, hap, killE, deadOf, rwE, cD, cO, jC, jD, jE, jF, jG, jH, jI, jJ, jK, jL, jM, jN, jO, jP, jQ, jR, jS, jT, jU, jV, jW, jX, jY, hP, hk, res9, kp9, shC, psV, psE, rqS])
  refine Run_parse _ sh3 (by simp) hP hE (by rw [hn0]; exact Nat.zero_le _) rfl (by simp) ?_
  (refine VT_ok hctr (rs := res9) true 300 _ _ _ ?_; simp (maxSteps := 1000000) only [VT, jf, jg, jZ, ja, jd, je, VC, qA, qB, qC, qD, qE, qF, qG, qH, qI, qJ, qK, qL, qM, qN, qO, qP, qQ, qR, qS, qT, qU, qV, qW, qX, qY, qZ, qe, qf, qg, qh, qj, qk, ql, qm, qn, qo, qp, qq, qt, qu, qv, ev, qw, qy, qz, zA, zB, zC, zD, zE, zF, zG, zH, zI, zJ, TE.sv, zK, zL, zM, ↓reduceIte, reduceCtorEq, Value.oneCell', Nat.reduceEqDiff, Nat.reduceAdd, Nat.reduceLT, Nat.reduceBEq, Nat.reduceSub, Nat.reduceLeDiff, zP, zQ, zR, zS, zT, zU, zV, zW, zX, zY, zZ, za, zb, zc, zd, ze, zf, zg, zh, zi, zj, zk, zl, zm, zn, zo, zp, zq, zr, zt, zu, zw, zx, zy, zz, cE, jA, jB, hap, killE, deadOf, rwE, cD, cO, jC, jD, jE, jF, jG, jH, jI, jJ, jK, jL, jM, jN, jO, jP, jQ, jR, jS, jT, jU, jV, jW, jX, jY, hP, hk, res9, kp9, shC, psV, psE, rqS])
  refine Run_parse _ sh4 (by simp) hP hE (by rw [hn0]; exact Nat.zero_le _) rfl (by simp) ?_
  have x11 : (((1 : Nat) : Int) == 1) = true := rfl
  have x12 : (0 : Int) < ((1 : Nat) : Int) := by decide
  (refine VT_ok hctr (rs := res9) true 400 _ _ _ ?_; simp (maxSteps := 1000000) only [VT, jf, jg, jZ, ja, jd, je, VC, qA, qB, qC, qD, qE, qF, qG, qH, qI, qJ, qK, qL, qM, qN, qO, qP, qQ, qR, qS, qT, qU, qV, qW, qX, qY, qZ, qe, qf, qg, qh, qj, qk, ql, qm, qn, qo, qp, qq, qt, qu, qv, ev, qw, qy, qz, zA, zB, zC, zD, zE, zF, zG, zH, zI, zJ, TE.sv, zK, zL, zM, ↓reduceIte, reduceCtorEq, Value.oneCell', Nat.reduceEqDiff, Nat.reduceAdd, Nat.reduceLT, Nat.reduceBEq, Nat.reduceSub, Nat.reduceLeDiff, zP, zQ, zR, zS, zT, zU, zV, zW, zX, zY, zZ, za, zb, zc, zd, ze, zf, zg, zh, zi, zj, zk, zl, zm, zn, zo, zp, zq, zr, zt, zu, zw, zx, zy, zz, cE, jA, jB, hap, killE, deadOf, rwE, cD, cO, jC, jD, jE, jF, jG, jH, jI, jJ, jK, jL, jM, jN, jO, jP, jQ, jR, jS, jT, jU, jV, jW, jX, jY, hP, hk, res9, kp9, shC, rowRep, x11, x12, Int.le_refl, Nat.le_refl, psV, psE, rqS, rwE, flatG, rcS, badR, Rq.zero, f_unknown, f_format, b_end, List.flatMap_cons, List.flatMap_nil, List.append_nil, beq_self_eq_true, Int.toNat_zero, Nat.zero_mul, Nat.zero_add])
  exact Fin_ro (v := .c (.b true)) hC hres9 rfl trivial
end Go.Proofs.YtlbbldcfkalhlaaGreatDoor
