/- meta.Parse and meta.Reply as calls of a walk; shown. -/
import Derived.Test.YtlaagebdbcmckaaGreatDoorCEparse
import Derived.Test.YtlaagebdbcmckaaGreatDoorCEreplyS
namespace Go.Proofs.YtlaagebdbcmckaaGreatDoor
set_option linter.unusedSimpArgs false
set_option linter.unusedVariables false
set_option linter.unusedSimpArgs false
set_option linter.unusedVariables false
set_option maxHeartbeats 8000000
open Go.RowKit
set_option maxRecDepth 100000
def pmV (x : Mq × Int) (N : Nat) : SV := .t [.g (mqZ x.1 N), .c (.i .i64 x.2)]
theorem mparse_h {C : Cx} {nE N : Nat} {mk : Nat → Prop} {en en' : List EN} (b : List UInt8) {x : Mq × Int} (hx : mParse b = x) (hb : b.length ≤ 9223372036854775807) (hP : C.P = Tryz.prog) (hE : ∀ w, Upd C.S C.w0 w → EnvT w) (hmk : ∀ q, mk q ↔ q = N ∨ q = N + 1) (hn0 : C.n0 ≤ N) (hN : zD en' N = some (cmE x.1)) (hM : zD en' (N + 1) = some (flE x.1)) (hq : ∀ q, q ≠ N → q ≠ N + 1 → zD en' q = zD en q) :
    HCall C nE mk en en' 12 [.c (.s b)] (pmV x N) := by
  refine fresh2_h (N := N) (M := N + 1) (e1 := cmE x.1) (e2 := flE x.1) (vals1 := ecV x.1.cmds) (vals2 := x.1.flags.map encW) (fun args w => by rw [hP]; exact Tryz.call12 args w) hmk (by omega) hn0 (by omega) hN hM hq (by show ¬ (33 : Nat) = DEAD; decide) (by show ¬ (9 : Nat) = DEAD; decide) (fun ρ => ec_den ρ _) (fun ρ => st_den ρ _) (fun pr => ec_wf pr _) (fun pr => st_wf pr _) (fun pr h1 h2 => ?_) ?_
  · intro y hy
    simp only [List.mem_cons, List.not_mem_nil, or_false] at hy
    rcases hy with rfl | rfl
    · exact mqR_wf h1 h2
    · trivial
  · intro ρ pr w hw _ _
    rw [hP]
    refine (mparse_w b hb w (hE w hw.up)).mono ?_
    rintro z w' ⟨hbl, v, rfl, r1, r2, rfl, m1, m2, m3⟩
    rw [hx] at *
    refine ⟨r1, r2, m1.made (fun ρ => ec_den ρ _), m2.made (fun ρ => st_den ρ _), m3, fun ρ' _ e1 e2 => ?_, hbl⟩
    rw [← e1, ← e2]; rfl
theorem Run_mparse {C : Cx} {nt : Nat} {sl : List (Nat × SV)} {en : List EN} {k : List KI} {dst : Option Nat} {ty : TypeId} {pos : String} {af : Array Edge} {all r : List Oper} {args : Array Operand} {tys : Array TypeId} (b : List UInt8) {x : Mq × Int} (hx : mParse b = x) (hb : b.length ≤ 9223372036854775807) (hP : C.P = Tryz.prog) (hE : ∀ w, Upd C.S C.w0 w → EnvT w) (hn0 : C.n0 ≤ zG en)
    (hxs : qw sl args.toList = some [.c (.s b)]) (hd : ∀ d, dst = some d → d < nt) (hK : Run C (.ops all r :: k) nt (jN dst (pmV x (zG en)) sl) (zF (zF en (cmE x.1)) (flE x.1))) :
    Run C (.ops all (⟨dst, .call ⟨.value (.func 12), args, tys⟩, ty, pos, af, none⟩ :: r) :: k) nt sl en := by
  have hl1 : zG (zF en (cmE x.1)) = zG en + 1 := len_snoc
  have hl : zG (zF (zF en (cmE x.1)) (flE x.1)) = zG en + 1 + 1 := by rw [len_snoc, len_snoc]
  refine Run_hcall hxs (pmV x (zG en)) _ (mparse_h (N := zG en) b hx hb hP hE (fun q => by rw [hl]; omega) hn0 ?_ ?_ (fun q h1 h2 => ?_)) (by rw [hl]; omega) hd hK
  · rw [nth_snoc_ne (by rw [hl1]; omega)]; exact nth_snoc
  · have := nth_snoc (en := zF en (cmE x.1)) (e := flE x.1)
    rwa [hl1] at this
  · rw [nth_snoc_ne (by rw [hl1]; exact h2), nth_snoc_ne h1]
def rowRpl (en : List EN) : List SV → Option (Prop × SV)
  | [.g [.i .i64 k, .rw _ _, .b qt, .b _, .s _, .s _, .i .i64 _, .b _, .s nm, .rw M n, .s wd], .g [.i .i64 st, .s ky, .i .u32 fl, .s vl, .i .i64 ex, .i .u64 cas, .i .i64 la, .b stl, .b won, .i .u64 num, .b W, .b Xx, .b Z], .c (.i .i64 now)] => match zD en M with
    | some ⟨(t, o, iv), cells, _⟩ => match strsOf cells with
      | some F => some (t = 9 ∧ o = 0 ∧ iv = rowP 1 n cells.length ∧ n = F.length ∧ (k = 1 ∧ nm = [109, 103] ∧ st = 1) ∧ RpOk ⟨k, [], qt, [], 0, false, nm, F, wd⟩ ⟨st, ⟨ky, fl, vl, ex, cas, la, stl, won⟩, num, W, Xx, Z⟩ now, .c (.s (mReply ⟨k, [], qt, [], 0, false, nm, F, wd⟩ ⟨st, ⟨ky, fl, vl, ex, cas, la, stl, won⟩, num, W, Xx, Z⟩ now)))
      | none => none
    | none => none
  | _ => none
theorem rowRpl_ok {ρ : Nat → RE} {en : List EN} {w : World} {xs : List SV} {p : Prop} {v : SV} (h : rowRpl en xs = some (p, v)) (hp : p) (hE : Env w) (hHp : Hp ρ (· < en.length) en w) (hHo : Ho ρ (· < en.length) en) :
    v.wf (· < en.length) ∧ Calls Tryz.prog 14 (xs.map (SV.den ρ)).toArray w fun e w' => e = .returned (v.den ρ) ∧ Below w.heap.size w w' := by
  unfold rowRpl at h
  split at h <;> try cases h
  rename_i k N0 n0 qt tk rp ar sk cl nm M n wd st ky fl vl ex cas la stl won num W Xx Z now
  split at h <;> try cases h
  rename_i t o iv cells mu hN
  split at h <;> simp only [Option.some.injEq, Prod.mk.injEq, reduceCtorEq] at h
  rename_i F hs
  obtain ⟨rfl, rfl⟩ := h
  obtain ⟨rfl, rfl, rfl, rfl, ⟨q1, q2, q3⟩, hok⟩ := hp
  have hc := strsOf_eq hs
  subst hc
  refine ⟨trivial, ?_⟩
  have lN : M < en.length := by rw [nthS_eq] at hN; exact (List.getElem?_eq_some_iff.1 hN).1
  obtain ⟨ca, cc, hca⟩ := rwOf_sl (ρ N0) n0
  obtain ⟨_, hL, hO⟩ := hHo M _ _ _ lN hN
  obtain ⟨fa, fc, hfa, hraw⟩ : ∃ fa fc, rwOf (ρ M) F.length = .slice fa F.length fc ∧ RawT w fa F := by
    rcases hO with ⟨h1, h2, h3, h4, h5⟩ | ⟨h1, h2, h3⟩
    · refine ⟨_, _, rwOf_on h1 _, fun j x hx => ?_⟩
      have hf : (F.map SC.s)[j]? = some (.s x) := by rw [List.getElem?_map, hx]; rfl
      have := hHp.cellAt lN hN hf
      rw [h2] at this
      have hcl : w.cell? ⟨(ρ M).blk, 0 + j, none⟩ = some (.string ⟨x.toArray⟩) := this
      exact ⟨_, 0, rfl, Go.block_lt_of_cell hcl, hcl⟩
    · have h0 : F = [] := List.eq_nil_of_length_eq_zero h2
      subst h0
      exact ⟨_, _, rwOf_off h1 _, fun j x hx => by simp at hx⟩
  have := replyS_w (X := ⟨ca, n0, cc, tk, ar, fa, F.length, fc⟩) (r := ⟨k, [], qt, rp, sk, cl, nm, F, wd⟩) (a := ⟨st, ⟨ky, fl, vl, ex, cas, la, stl, won⟩, num, W, Xx, Z⟩) (now := now) (w := w) ⟨hok.nf, hok.lf, hok.lw, hok.lv, hok.lv2, hok.c0, hok.c1, hok.f0, hok.f1, hok.e0, hok.e1⟩ rfl hraw hE q1 q2 q3
  have hargs : (SV.g [.i .i64 k, .rw N0 n0, .b qt, .b tk, .s rp, .s ar, .i .i64 sk, .b cl, .s nm, .rw M F.length, .s wd]).den ρ = (SV.g (xqS ⟨ca, n0, cc, tk, ar, fa, F.length, fc⟩ ⟨k, [], qt, rp, sk, cl, nm, F, wd⟩)).den (fun _ => reOf 0) := by
    simp only [SV.den, dens, List.map_cons, List.map_nil, SC.den, xqS, hca, hfa]
  show Calls _ _ #[_, _, _] _ _
  rw [hargs]
  exact this
def shM : Ctr := fun f en xs => match f with
  | 14 => rowRpl en xs
  | _ => none
theorem shM_ok {C : Cx} (hP : C.P = Tryz.prog) (hE : EnvC C) : CtrOk C shM := by
  intro f en xs p v h hp ρ w hup hHp hHo hinj hwf
  unfold shM at h
  split at h
  · rw [hP]
    exact ⟨fun args w => Tryz.call14 args w, rowRpl_ok h hp (hE w hup) hHp hHo⟩
  · cases h
def sq1 : Mq := ⟨1, [{ cmd0 1 0 with key := [102, 111, 111] }], false, [], 0, false, m_mg, [[98], [118], [116]], [90, 109, 57, 118]⟩
theorem sm1 : mParse [109, 103, 32, 90, 109, 57, 118, 32, 98, 32, 118, 32, 116, 10] = (sq1, 14) := by kernel_rfl
theorem sm2 : mParse [109, 115, 32, 107, 32, 50, 32, 84, 48, 32, 77, 88, 13, 10] = (badM f_token 4, 14) := by kernel_rfl
theorem sm3 : mParse [109, 97, 32, 107, 32, 118, 32, 118, 10] = (badM f_twice 0, 9) := by kernel_rfl
theorem sm4 : mReply ⟨1, [], false, [], 0, false, [109, 103], [[98], [118], [116]], [90, 109, 57, 118]⟩ ⟨1, ⟨[], 0, [49, 50], 30, 0, 0, false, false⟩, 0, true, false, false⟩ 20 = [86, 65, 32, 50, 32, 98, 32, 116, 49, 48, 32, 87, 13, 10, 49, 50, 13, 10] := by kernel_rfl
theorem shownM_w (w : World) (hE0 : EnvT w) : Calls Tryz.prog 10 #[] w fun e w' => e = .returned (.bool true) ∧ Below w.heap.size w w' := by
  refine calls_of_Run Tryz.func10 rfl kp10 (S := Non) (ρ := fun _ => reOf 0) (en := []) [] Tryz.ntmps10 (At.nil _ _ _) (by simp) (by simp) ?_
  intro C hC hP hk
  have hE : ∀ w', Upd C.S C.w0 w' → EnvT w' := fun w' hu => by rw [hC] at hu; exact hE0.below hu.to_below
  have hctr := shM_ok hP (fun w' hu => (hE w' hu).env)
  have hn0 : C.n0 = 0 := by rw [hC]; rfl
  have x11 : (((1 : Nat) : Int) != 1) = false := rfl
  have x12 : (0 : Int) < ((1 : Nat) : Int) := by decide
  (refine VT_ok hctr (rs := res10) true 300 _ _ _ ?_; simp (maxSteps := 1000000) only [VT, jf, jg, jZ, ja, jd, je, VC, qA, qB, qC, qD, qE, qF, qG, qH, qI, qJ, qK, qL, qM, qN, qO, qP, qQ, qR, qS, qT, qU, qV, qW, qX, qY, qZ, qe, qf, qg, qh, qj, qk, ql, qm, qn, qo, qp, qq, q0t, qu, qv, ev, qw, qy, qz, zA, zB, zC, zD, zE, zF, zG, zH, zI, zJ, TE.sv, zK, zL, zM, ↓reduceIte, reduceCtorEq, Value.oneCell', Nat.reduceEqDiff, Nat.reduceAdd, Nat.reduceLT, Nat.reduceBEq, Nat.reduceSub, Nat.reduceLeDiff, zP, zQ, zR, zS, zT, zU, zV, zW, zX, zY, zZ, za, zb, zc, zd, ze, zf, zg, zh, zi, zj, zk, zl, zm, zn, zo, zp, zq, zr, zt, zu, zw, zx, zy, zz, cE, jA, jB, hap, killE, deadOf, rwE, cD, cO, jC, jD, jE, jF, jG, jH, jI, jJ, jK, jL, jM, jN, jO, jP, jQ, jR, jS, jT, jU, jV, jW, jX, jY, hP, hk, res10, kp10, shM])
  refine Run_mparse _ sm1 (by simp) hP hE (by rw [hn0]; exact Nat.zero_le _) rfl (by simp) ?_
  (refine VT_ok hctr (rs := res10) true 300 _ _ _ ?_; simp (maxSteps := 1000000) only [VT, jf, jg, jZ, ja, jd, je, VC, qA, qB, qC, qD, qE, qF, qG, qH, qI, qJ, qK, qL, qM, qN, qO, qP, qQ, qR, qS, qT, qU, qV, qW, qX, qY, qZ, qe, qf, qg, qh, qj, qk, ql, qm, qn, qo, qp, qq, q0t, qu, qv, ev, qw, qy, qz, zA, zB, zC, zD, zE, zF, zG, zH, zI, zJ, TE.sv, zK, zL, zM, ↓reduceIte, reduceCtorEq, Value.oneCell', Nat.reduceEqDiff, Nat.reduceAdd, Nat.reduceLT, Nat.reduceBEq, Nat.reduceSub, Nat.reduceLeDiff, zP, zQ, zR, zS, zT, zU, zV, zW, zX, zY, zZ, za, zb, zc, zd, ze, zf, zg, zh, zi, zj, zk, zl, zm, zn, zo, zp, zq, zr, zt, zu, zw, zx, zy, zz, cE, jA, jB, hap, killE, deadOf, rwE, cD, cO, jC, jD, jE, jF, jG, jH, jI, jJ, jK, jL, jM, jN, jO, jP, jQ, jR, jS, jT, jU, jV, jW, jX, jY, hP, hk, res10, kp10, shM, pmV, mqZ, mqS, sq1, cmE, flE, rwE, flatG, ecS, cmd0, Cd.zero, m_mg, x11, x12, List.length_cons, List.length_nil, List.flatMap_cons, List.flatMap_nil, List.append_nil, List.map_cons, List.map_nil, Int.toNat_zero, Nat.zero_mul, Nat.zero_add, rowRpl, strsOf, sm4, bne_self_eq_false, beq_self_eq_true, Bool.not_true, lb1, lb2, lb3, lb4, u8b, UInt8.reduceToNat])
  refine ⟨Int.le_refl _, ⟨by decide, by decide, by decide, by decide, fun _ => by decide, by decide, by decide, by decide, by decide, by decide, by decide⟩, ?_⟩
  refine Run_mparse _ sm2 (by simp) hP hE (by rw [hn0]; exact Nat.zero_le _) rfl (by simp) ?_
  (refine VT_ok hctr (rs := res10) true 300 _ _ _ ?_; simp (maxSteps := 1000000) only [VT, jf, jg, jZ, ja, jd, je, VC, qA, qB, qC, qD, qE, qF, qG, qH, qI, qJ, qK, qL, qM, qN, qO, qP, qQ, qR, qS, qT, qU, qV, qW, qX, qY, qZ, qe, qf, qg, qh, qj, qk, ql, qm, qn, qo, qp, qq, q0t, qu, qv, ev, qw, qy, qz, zA, zB, zC, zD, zE, zF, zG, zH, zI, zJ, TE.sv, zK, zL, zM, ↓reduceIte, reduceCtorEq, Value.oneCell', Nat.reduceEqDiff, Nat.reduceAdd, Nat.reduceLT, Nat.reduceBEq, Nat.reduceSub, Nat.reduceLeDiff, zP, zQ, zR, zS, zT, zU, zV, zW, zX, zY, zZ, za, zb, zc, zd, ze, zf, zg, zh, zi, zj, zk, zl, zm, zn, zo, zp, zq, zr, zt, zu, zw, zx, zy, zz, cE, jA, jB, hap, killE, deadOf, rwE, cD, cO, jC, jD, jE, jF, jG, jH, jI, jJ, jK, jL, jM, jN, jO, jP, jQ, jR, jS, jT, jU, jV, jW, jX, jY, hP, hk, res10, kp10, shM, pmV, mqZ, mqS, sq1, badM, cmE, flE, rwE, flatG, ecS, cmd0, Cd.zero, m_mg, x11, x12, List.length_cons, List.length_nil, List.flatMap_cons, List.flatMap_nil, List.append_nil, List.map_cons, List.map_nil, Int.toNat_zero, Nat.zero_mul, Nat.zero_add, rowRpl, strsOf, sm4, bne_self_eq_false, beq_self_eq_true, Bool.not_true, lb1, lb2, lb3, lb4, u8b, UInt8.reduceToNat])
  refine Run_mparse _ sm3 (by simp) hP hE (by rw [hn0]; exact Nat.zero_le _) rfl (by simp) ?_
  (refine VT_ok hctr (rs := res10) true 400 _ _ _ ?_; simp (maxSteps := 1000000) only [VT, jf, jg, jZ, ja, jd, je, VC, qA, qB, qC, qD, qE, qF, qG, qH, qI, qJ, qK, qL, qM, qN, qO, qP, qQ, qR, qS, qT, qU, qV, qW, qX, qY, qZ, qe, qf, qg, qh, qj, qk, ql, qm, qn, qo, qp, qq, q0t, qu, qv, ev, qw, qy, qz, zA, zB, zC, zD, zE, zF, zG, zH, zI, zJ, TE.sv, zK, zL, zM, ↓reduceIte, reduceCtorEq, Value.oneCell', Nat.reduceEqDiff, Nat.reduceAdd, Nat.reduceLT, Nat.reduceBEq, Nat.reduceSub, Nat.reduceLeDiff, zP, zQ, zR, zS, zT, zU, zV, zW, zX, zY, zZ, za, zb, zc, zd, ze, zf, zg, zh, zi, zj, zk, zl, zm, zn, zo, zp, zq, zr, zt, zu, zw, zx, zy, zz, cE, jA, jB, hap, killE, deadOf, rwE, cD, cO, jC, jD, jE, jF, jG, jH, jI, jJ, jK, jL, jM, jN, jO, jP, jQ, jR, jS, jT, jU, jV, jW, jX, jY, hP, hk, res10, kp10, shM, pmV, mqZ, mqS, sq1, badM, cmE, flE, rwE, flatG, ecS, cmd0, Cd.zero, m_mg, x11, x12, List.length_cons, List.length_nil, List.flatMap_cons, List.flatMap_nil, List.append_nil, List.map_cons, List.map_nil, Int.toNat_zero, Nat.zero_mul, Nat.zero_add, rowRpl, strsOf, sm4, bne_self_eq_false, beq_self_eq_true, Bool.not_true, lb1, lb2, lb3, lb4, u8b, UInt8.reduceToNat, f_token, f_twice])
  exact Fin_ro (v := .c (.b true)) hC hres10 rfl trivial
end Go.Proofs.YtlaagebdbcmckaaGreatDoor
