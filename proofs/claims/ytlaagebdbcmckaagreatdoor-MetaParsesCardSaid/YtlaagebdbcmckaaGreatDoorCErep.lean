/- meta.Reply's small functions, walked: line, left, size, loud, has. -/
import Derived.Test.YtlaagebdbcmckaaGreatDoorCEjoin
import Derived.Test.YtlaagebdbcmckaaGreatDoorBM
import Derived.Test.YtlaagebdbcmckaaGreatDoorBC
import Derived.Test.YtlaagebdbcmckaaGreatDoorCEmq
namespace Go.Proofs.YtlaagebdbcmckaaGreatDoor
set_option linter.unusedSimpArgs false
set_option linter.unusedVariables false
set_option linter.unusedSimpArgs false
set_option linter.unusedVariables false
set_option maxHeartbeats 8000000
open Go.RowKit
set_option maxRecDepth 100000
def frz (en : List EN) : List EN := en.map fun e => ⟨e.ty, e.cells, false⟩
theorem frz_len (en : List EN) : (frz en).length = en.length := by simp [frz]
theorem frz_nth (en : List EN) (c : Nat) : zD (frz en) c = (zD en c).map fun e => ⟨e.ty, e.cells, false⟩ := by simp [nthS_eq, frz]
theorem frz_some {en : List EN} {c : Nat} {ty : TypeId × Nat × (RE → Prop)} {cells : List SC} {mu : Bool} (h : zD (frz en) c = some ⟨ty, cells, mu⟩) : ∃ mu', zD en c = some ⟨ty, cells, mu'⟩ ∧ mu = false := by
  rw [frz_nth, Option.map_eq_some_iff] at h
  obtain ⟨⟨t, l, m⟩, h1, h2⟩ := h
  simp only [EN.mk.injEq] at h2
  obtain ⟨rfl, rfl, rfl⟩ := h2
  exact ⟨m, h1, rfl⟩
theorem at_frz {ρ : Nat → RE} {en : List EN} {w : World} (hHp : Hp ρ (· < en.length) en w) (hHo : Ho ρ (· < en.length) en) (hinj : Inj ρ (· < en.length) en) : At Non ρ (frz en) w := by
  rw [show At Non ρ (frz en) w ↔ At Non ρ (frz en) w from Iff.rfl]
  refine ⟨?_, ?_, ?_, ?_⟩
  · intro c ty cells mu hc he
    have hc : c < (frz en).length := hc
    rw [frz_len] at hc
    obtain ⟨mu', h1, rfl⟩ := frz_some he
    have := hHp c ty cells mu' hc h1
    rw [frz_len]
    exact ⟨this.heap, this.wf, fun hd => ⟨(this.dead hd).1, rfl⟩, this.non⟩
  · intro c ty cells mu hc he
    have hc : c < (frz en).length := hc
    rw [frz_len] at hc
    obtain ⟨mu', h1, rfl⟩ := frz_some he
    exact hHo c ty cells mu' hc h1
  · intro c d hc hd h1 h2 he
    have hc : c < (frz en).length := hc
    have hd : d < (frz en).length := hd
    rw [frz_len] at hc hd
    have hl : ∀ c, c < en.length → deadE (ρ c) (zD (frz en) c) = false → deadE (ρ c) (zD en c) = false := by
      intro c hc h
      rw [frz_nth] at h
      obtain ⟨e, he⟩ : ∃ e, zD en c = some e := ⟨_, by rw [nthS_eq]; exact List.getElem?_eq_getElem hc⟩
      rw [he] at h ⊢
      exact h
    exact hinj c d hc hd (hl c hc h1) (hl d hd h2) he
  · intro c ty cells hc he
    obtain ⟨_, _, h⟩ := frz_some he
    cases h
def anM (a : An) : List SC := [.i .i64 a.st, .s a.it.key, .i .u32 a.it.flags, .s a.it.val, .i .i64 a.it.exp, .i .u64 a.it.cas, .i .i64 a.it.last, .b a.it.stale, .b a.it.won, .i .u64 a.num, .b a.w, .b a.x, .b a.z]
structure Xq where
  ca : Option Addr
  cn : Nat
  cc : Nat
  tk : Bool
  ar : List UInt8
  fa : Option Addr
  fn : Nat
  fc : Nat
def xqS (X : Xq) (r : Mq) : List SC := [.i .i64 r.kind, .v (.slice X.ca X.cn X.cc), .b r.quiet, .b X.tk, .s r.reply, .s X.ar, .i .i64 r.skip, .b r.close, .s r.name, .v (.slice X.fa X.fn X.fc), .s r.word]
def rpS (X : Xq) (r : Mq) (a : An) (now : Int) : List SC := [.i .i64 r.kind, .v (.slice X.ca X.cn X.cc), .b r.quiet, .b X.tk, .s r.reply, .s X.ar, .i .i64 r.skip, .b r.close, .s r.name, .v (.slice X.fa X.fn X.fc), .s r.word, .i .i64 a.st, .s a.it.key, .i .u32 a.it.flags, .s a.it.val, .i .i64 a.it.exp, .i .u64 a.it.cas, .i .i64 a.it.last, .b a.it.stale, .b a.it.won, .i .u64 a.num, .b a.w, .b a.x, .b a.z, .i .i64 now]
def rpV (X : Xq) (r : Mq) (a : An) (now : Int) : Value := (SV.g (rpS X r a now)).den (fun _ => reOf 0)
theorem rp_wf (pr : Nat → Prop) (X : Xq) (r : Mq) (a : An) (now : Int) : wfs pr (rpS X r a now) := by
  intro x hx
  simp only [rpS, List.mem_cons, List.not_mem_nil, or_false] at hx
  rcases hx with rfl | rfl | rfl | rfl | rfl | rfl | rfl | rfl | rfl | rfl | rfl | rfl | rfl | rfl | rfl | rfl | rfl | rfl | rfl | rfl | rfl | rfl | rfl | rfl | rfl <;> trivial
structure RpOk (r : Mq) (a : An) (now : Int) : Prop where
  nf : r.flags.length ≤ 5000
  lf : ∀ f ∈ r.flags, f.length ≤ 5000
  lw : r.word.length ≤ 5000
  lv : a.it.val.length ≤ 9223372036854775807
  lv2 : hasF r 118 = true → a.it.val.length ≤ 9000000000000000000
  c0 : 0 ≤ a.it.cas
  c1 : a.it.cas < 18446744073709551616
  f0 : 0 ≤ a.it.flags
  f1 : a.it.flags < 4294967296
  e0 : -9223372036854775808 ≤ a.it.exp - now
  e1 : a.it.exp - now ≤ 9223372036854775807
def txC : Ctr := fun f _ xs => match f with
  | 16 => rowText xs
  | _ => none
theorem txC_ok {C : Cx} (hP : C.P = Tryz.prog) (hE : EnvC C) : CtrOk C txC := by
  intro f en xs p v h hp ρ w hup hHp hHo hinj hwf
  unfold txC at h
  split at h
  · rw [hP]; exact ⟨fun args w => Tryz.call16 args w, rowText_ok h hp (hE w hup)⟩
  · cases h
section
variable {X : Xq} {r : Mq} {a : An} {now : Int} {w : World}
theorem left_w (hok : RpOk r a now) (hE0 : Env w) : Calls Tryz.prog 32 #[rpV X r a now] w fun e w' => e = .returned (.string ⟨(leftT a.it now).toArray⟩) ∧ Below w.heap.size w w' := by
  refine calls_of_Run Tryz.func32 rfl kp32 (S := Non) (ρ := fun _ => reOf 0) (en := []) [.g (rpS X r a now)] Tryz.ntmps32 (At.nil _ _ _) (by simp only [List.mem_singleton, forall_eq]; exact rp_wf _ _ _ _ _) (by simp) ?_
  intro C hC hP hk
  have hctr := txC_ok hP (fun w' hu => by rw [hC] at hu; exact hE0.below hu.to_below)
  have fin : ∀ l en, l = leftT a.it now → Fin C res32 (.c (.s l)) en := fun l en hl => by subst hl; exact Fin_ro (v := .c (.s (leftT a.it now))) hC hres32 rfl trivial
  by_cases h0 : a.it.exp = 0
  · have c0 : (a.it.exp == 0) = true := by simpa using h0
    (refine VT_ok hctr (rs := res32) true 300 _ _ _ ?_; simp (maxSteps := 1000000) only [VT, jf, jg, jZ, ja, jd, je, VC, qA, qB, qC, qD, qE, qF, qG, qH, qI, qJ, qK, qL, qM, qN, qO, qP, qQ, qR, qS, qT, qU, qV, qW, qX, qY, qZ, qe, qf, qg, qh, qj, qk, ql, qm, qn, qo, qp, qq, q0t, qu, qv, ev, qw, qy, qz, zA, zB, zC, zD, zE, zF, zG, zH, zI, zJ, TE.sv, zK, zL, zM, ↓reduceIte, reduceCtorEq, Value.oneCell', Nat.reduceEqDiff, Nat.reduceAdd, Nat.reduceLT, Nat.reduceBEq, Nat.reduceSub, Nat.reduceLeDiff, zP, zQ, zR, zS, zT, zU, zV, zW, zX, zY, zZ, za, zb, zc, zd, ze, zf, zg, zh, zi, zj, zk, zl, zm, zn, zo, zp, zq, zr, zt, zu, zw, zx, zy, zz, cE, jA, jB, hap, killE, deadOf, rwE, cD, cO, jC, jD, jE, jF, jG, jH, jI, jJ, jK, jL, jM, jN, jO, jP, jQ, jR, jS, jT, jU, jV, jW, jX, jY, hP, hk, res32, kp32, txC, rowText, rpS, c0])
    exact fin _ _ (by unfold leftT; rw [if_pos h0])
  · have c0 : (a.it.exp == 0) = false := by simpa using h0
    have w1 : IntKind.i64.wrap (a.it.exp - now) = a.it.exp - now := IntWalk.i64_in _ (by have := hok.e0; have := hok.e1; omega)
    obtain ⟨m, hm⟩ : ∃ m : Int, (if (0 : Int) < a.it.exp - now then a.it.exp - now else 0) = m := ⟨_, rfl⟩
    have m0 : 0 ≤ m ∧ m < 18446744073709551616 := by have := hok.e1; rw [← hm]; split <;> omega
    have w2 : IntKind.u64.wrap m = m := by rw [IntKind.wrap_u64]; omega
    (refine VT_ok hctr (rs := res32) true 300 _ _ _ ?_; simp (maxSteps := 1000000) only [VT, jf, jg, jZ, ja, jd, je, VC, qA, qB, qC, qD, qE, qF, qG, qH, qI, qJ, qK, qL, qM, qN, qO, qP, qQ, qR, qS, qT, qU, qV, qW, qX, qY, qZ, qe, qf, qg, qh, qj, qk, ql, qm, qn, qo, qp, qq, q0t, qu, qv, ev, qw, qy, qz, zA, zB, zC, zD, zE, zF, zG, zH, zI, zJ, TE.sv, zK, zL, zM, ↓reduceIte, reduceCtorEq, Value.oneCell', Nat.reduceEqDiff, Nat.reduceAdd, Nat.reduceLT, Nat.reduceBEq, Nat.reduceSub, Nat.reduceLeDiff, zP, zQ, zR, zS, zT, zU, zV, zW, zX, zY, zZ, za, zb, zc, zd, ze, zf, zg, zh, zi, zj, zk, zl, zm, zn, zo, zp, zq, zr, zt, zu, zw, zx, zy, zz, cE, jA, jB, hap, killE, deadOf, rwE, cD, cO, jC, jD, jE, jF, jG, jH, jI, jJ, jK, jL, jM, jN, jO, jP, jQ, jR, jS, jT, jU, jV, jW, jX, jY, hP, hk, res32, kp32, txC, rowText, rpS, c0, w1, hm, w2, m0.1, m0.2])
    exact fin _ _ (by unfold leftT; rw [if_neg h0, hm])
theorem size_w (hok : RpOk r a now) (hE0 : Env w) : Calls Tryz.prog 33 #[rpV X r a now] w fun e w' => e = .returned (.string ⟨(sizeT a.it).toArray⟩) ∧ Below w.heap.size w w' := by
  refine calls_of_Run Tryz.func33 rfl kp33 (S := Non) (ρ := fun _ => reOf 0) (en := []) [.g (rpS X r a now)] Tryz.ntmps33 (At.nil _ _ _) (by simp only [List.mem_singleton, forall_eq]; exact rp_wf _ _ _ _ _) (by simp) ?_
  intro C hC hP hk
  have hctr := txC_ok hP (fun w' hu => by rw [hC] at hu; exact hE0.below hu.to_below)
  have w2 : IntKind.u64.wrap ((a.it.val.length : Nat) : Int) = ((a.it.val.length : Nat) : Int) := by have := hok.lv; rw [IntKind.wrap_u64]; omega
  have m0 : (0 : Int) ≤ ((a.it.val.length : Nat) : Int) := by omega
  have m1 : ((a.it.val.length : Nat) : Int) < 18446744073709551616 := by have := hok.lv; omega
  (refine VT_ok hctr (rs := res33) true 300 _ _ _ ?_; simp (maxSteps := 1000000) only [VT, jf, jg, jZ, ja, jd, je, VC, qA, qB, qC, qD, qE, qF, qG, qH, qI, qJ, qK, qL, qM, qN, qO, qP, qQ, qR, qS, qT, qU, qV, qW, qX, qY, qZ, qe, qf, qg, qh, qj, qk, ql, qm, qn, qo, qp, qq, q0t, qu, qv, ev, qw, qy, qz, zA, zB, zC, zD, zE, zF, zG, zH, zI, zJ, TE.sv, zK, zL, zM, ↓reduceIte, reduceCtorEq, Value.oneCell', Nat.reduceEqDiff, Nat.reduceAdd, Nat.reduceLT, Nat.reduceBEq, Nat.reduceSub, Nat.reduceLeDiff, zP, zQ, zR, zS, zT, zU, zV, zW, zX, zY, zZ, za, zb, zc, zd, ze, zf, zg, zh, zi, zj, zk, zl, zm, zn, zo, zp, zq, zr, zt, zu, zw, zx, zy, zz, cE, jA, jB, hap, killE, deadOf, rwE, cD, cO, jC, jD, jE, jF, jG, jH, jI, jJ, jK, jL, jM, jN, jO, jP, jQ, jR, jS, jT, jU, jV, jW, jX, jY, hP, hk, res33, kp33, txC, rowText, rpS, w2, m0, m1, Int.toNat_natCast])
  exact Fin_ro (v := .c (.s (sizeT a.it))) hC hres33 rfl trivial
theorem loud_w (s : List UInt8) : Calls Tryz.prog 35 #[rpV X r a now, .string ⟨s.toArray⟩] w fun e w' => e = .returned (.string ⟨(loudT r s).toArray⟩) ∧ Below w.heap.size w w' := by
  refine calls_of_Run Tryz.func35 rfl kp35 (S := Non) (ρ := fun _ => reOf 0) (en := []) [.g (rpS X r a now), .c (.s s)] Tryz.ntmps35 (At.nil _ _ _) (by simp only [List.mem_cons, List.not_mem_nil, or_false, forall_eq_or_imp, forall_eq]; exact ⟨rp_wf _ _ _ _ _, trivial⟩) (by simp) ?_
  intro C hC hP hk
  have hctr := noC_ok hP
  have fin : ∀ l en, l = loudT r s → Fin C res35 (.c (.s l)) en := fun l en hl => by subst hl; exact Fin_ro (v := .c (.s (loudT r s))) hC hres35 rfl trivial
  cases hq : r.quiet with
  | true =>
    (refine VT_ok hctr (rs := res35) true 300 _ _ _ ?_; simp (maxSteps := 1000000) only [VT, jf, jg, jZ, ja, jd, je, VC, qA, qB, qC, qD, qE, qF, qG, qH, qI, qJ, qK, qL, qM, qN, qO, qP, qQ, qR, qS, qT, qU, qV, qW, qX, qY, qZ, qe, qf, qg, qh, qj, qk, ql, qm, qn, qo, qp, qq, q0t, qu, qv, ev, qw, qy, qz, zA, zB, zC, zD, zE, zF, zG, zH, zI, zJ, TE.sv, zK, zL, zM, ↓reduceIte, reduceCtorEq, Value.oneCell', Nat.reduceEqDiff, Nat.reduceAdd, Nat.reduceLT, Nat.reduceBEq, Nat.reduceSub, Nat.reduceLeDiff, zP, zQ, zR, zS, zT, zU, zV, zW, zX, zY, zZ, za, zb, zc, zd, ze, zf, zg, zh, zi, zj, zk, zl, zm, zn, zo, zp, zq, zr, zt, zu, zw, zx, zy, zz, cE, jA, jB, hap, killE, deadOf, rwE, cD, cO, jC, jD, jE, jF, jG, jH, jI, jJ, jK, jL, jM, jN, jO, jP, jQ, jR, jS, jT, jU, jV, jW, jX, jY, hP, hk, res35, kp35, noC, rpS, hq])
    exact fin _ _ (by unfold loudT; rw [hq]; rfl)
  | false =>
    (refine VT_ok hctr (rs := res35) true 300 _ _ _ ?_; simp (maxSteps := 1000000) only [VT, jf, jg, jZ, ja, jd, je, VC, qA, qB, qC, qD, qE, qF, qG, qH, qI, qJ, qK, qL, qM, qN, qO, qP, qQ, qR, qS, qT, qU, qV, qW, qX, qY, qZ, qe, qf, qg, qh, qj, qk, ql, qm, qn, qo, qp, qq, q0t, qu, qv, ev, qw, qy, qz, zA, zB, zC, zD, zE, zF, zG, zH, zI, zJ, TE.sv, zK, zL, zM, ↓reduceIte, reduceCtorEq, Value.oneCell', Nat.reduceEqDiff, Nat.reduceAdd, Nat.reduceLT, Nat.reduceBEq, Nat.reduceSub, Nat.reduceLeDiff, zP, zQ, zR, zS, zT, zU, zV, zW, zX, zY, zZ, za, zb, zc, zd, ze, zf, zg, zh, zi, zj, zk, zl, zm, zn, zo, zp, zq, zr, zt, zu, zw, zx, zy, zz, cE, jA, jB, hap, killE, deadOf, rwE, cD, cO, jC, jD, jE, jF, jG, jH, jI, jJ, jK, jL, jM, jN, jO, jP, jQ, jR, jS, jT, jU, jV, jW, jX, jY, hP, hk, res35, kp35, noC, rpS, hq])
    exact fin _ _ (by unfold loudT; rw [hq]; rfl)
def rowPre1 : List SV → Option (Prop × SV)
  | [.c (.s l), .c (.s [x])] => some (True, .c (.b (l.head? == some x)))
  | _ => none
def prC : Ctr := fun f _ xs => match f with
  | 62 => rowPre1 xs
  | _ => none
theorem prC_ok {C : Cx} (hP : C.P = Tryz.prog) : CtrOk C prC := by
  intro f en xs p v h hp ρ w hup hHp hHo hinj hwf
  unfold prC at h
  split at h
  · rw [hP]
    refine ⟨fun args w => Tryz.call62 args w, ?_⟩
    unfold rowPre1 at h
    split at h <;> simp only [Option.some.injEq, Prod.mk.injEq, reduceCtorEq] at h
    rename_i l x
    obtain ⟨rfl, rfl⟩ := h
    refine ⟨trivial, (Tryz.strings_HasPrefix _ _ w).mono ?_⟩
    rintro e w' ⟨rfl, rfl⟩
    refine ⟨?_, Below.refl _ _⟩
    have : Lib.hasPrefix l [x] = (l.head? == some x) := by
      cases l with
      | nil => rfl
      | cons y l =>
        show ([x] : List UInt8).isPrefixOf (y :: l) = _
        by_cases h : x = y
        · subst h; simp [List.isPrefixOf]
        · have h1 : (x == y) = false := by simpa using h
          have h2 : (some y == some x) = false := by simpa using fun e => h (Eq.symm e)
          simp [List.isPrefixOf, h1, h2]
    rw [← this]; rfl
  · cases h
def slHas (X : Xq) (j : Nat) : List (Nat × SV) := [(11, .c (.i .i64 (j : Int))), (10, .c (.i .i64 (X.fn : Int))), (9, .c (.v (.slice X.fa X.fn X.fc))), (1, .c (.s [118]))]
theorem has_w (hok : RpOk r a now) (hn : X.fn = r.flags.length) (hraw : RawT w X.fa r.flags) : Calls Tryz.prog 37 #[rpV X r a now, .string ⟨#[118]⟩] w fun e w' => e = .returned (.bool (hasF r 118)) ∧ Below w.heap.size w w' := by
  obtain ⟨ca, cn, cc, tk, ar, fa, fn, fc⟩ := X
  have hn : fn = r.flags.length := hn
  have hraw : RawT w fa r.flags := hraw
  refine calls_of_Run Tryz.func37 rfl kp37 (S := Non) (ρ := fun _ => reOf 0) (en := []) [.g (rpS ⟨ca, cn, cc, tk, ar, fa, fn, fc⟩ r a now), .c (.s [118])] Tryz.ntmps37 (At.nil _ _ _) (by simp only [List.mem_cons, List.not_mem_nil, or_false, forall_eq_or_imp, forall_eq]; exact ⟨rp_wf _ _ _ _ _, trivial⟩) (by simp) ?_
  intro C hC hP hk
  have hctr := prC_ok hP
  have fin : ∀ b en, b = hasF r 118 → Fin C res37 (.c (.b b)) en := fun b en hb => by subst hb; exact Fin_ro (v := .c (.b (hasF r 118))) hC hres37 rfl trivial
  (refine VT_ok hctr (rs := res37) true 300 _ _ _ ?_; simp (maxSteps := 1000000) only [VT, jf, jg, jZ, ja, jd, je, VC, qA, qB, qC, qD, qE, qF, qG, qH, qI, qJ, qK, qL, qM, qN, qO, qP, qQ, qR, qS, qT, qU, qV, qW, qX, qY, qZ, qe, qf, qg, qh, qj, qk, ql, qm, qn, qo, qp, qq, q0t, qu, qv, ev, qw, qy, qz, zA, zB, zC, zD, zE, zF, zG, zH, zI, zJ, TE.sv, zK, zL, zM, ↓reduceIte, reduceCtorEq, Value.oneCell', Nat.reduceEqDiff, Nat.reduceAdd, Nat.reduceLT, Nat.reduceBEq, Nat.reduceSub, Nat.reduceLeDiff, zP, zQ, zR, zS, zT, zU, zV, zW, zX, zY, zZ, za, zb, zc, zd, ze, zf, zg, zh, zi, zj, zk, zl, zm, zn, zo, zp, zq, zr, zt, zu, zw, zx, zy, zz, cE, jA, jB, hap, killE, deadOf, rwE, cD, cO, jC, jD, jE, jF, jG, jH, jI, jJ, jK, jL, jM, jN, jO, jP, jQ, jR, jS, jT, jU, jV, jW, jX, jY, hP, hk, res37, kp37, prC, rowPre1, rpS])
  refine Run_loopP (ι := { j : Nat // j ≤ fn ∧ hasF r 118 = (r.flags.drop j).any fun f => f.head? == some 118 }) (fun j => slHas ⟨ca, cn, cc, tk, ar, fa, fn, fc⟩ j.1) (fun _ => [⟨(66, 0, whole), rpS ⟨ca, cn, cc, tk, ar, fa, fn, fc⟩ r a now, true⟩]) (fun j => fn - j.1) ⟨0, Nat.zero_le _, rfl⟩ (sub_mk ⟨rfl, rfl, rfl, rfl, trivial⟩) rfl ?_
  rintro ⟨j, hj, hall⟩ D dP dS dw dn dr dk ddf dPan dRet hX hJ
  have hP0 := hP; have hk0 := hk; have hctr0 := hctr
  have hP : D.P = Tryz.prog := by rw [dP]; exact hP0
  have hk : D.kp = kp37 := by rw [dk]; exact hk0
  have hctr : CtrOk D prC := prC_ok hP
  have nf := hok.nf
  show Run D _ _ (slHas ⟨ca, cn, cc, tk, ar, fa, fn, fc⟩ j) [⟨(66, 0, whole), rpS ⟨ca, cn, cc, tk, ar, fa, fn, fc⟩ r a now, true⟩]
  by_cases hjn : j < fn
  · obtain ⟨x, hx⟩ : ∃ x, r.flags[j]? = some x := ⟨_, List.getElem?_eq_getElem (by omega)⟩
    obtain ⟨b0, o, ha, hr⟩ := hraw.rd (D := D) (by rw [dS, hC]; rfl) (by rw [dw, hC]; rfl) hx
    subst ha
    have q1 : decide ((j : Int) < (fn : Int)) = true := decide_eq_true (by omega)
    have p0 : (0 : Int) ≤ (j : Int) := by omega
    have p1 : (j : Int) < (fn : Int) := by omega
    have p3 : IntKind.i64.wrap ((j : Int) + 1) = ((j + 1 : Nat) : Int) := by rw [IntWalk.i64_in _ (by omega)]; rfl
    have hdr : r.flags.drop j = x :: r.flags.drop (j + 1) := by
      rw [List.drop_eq_getElem_cons (by omega)]; congr 1
      exact (List.getElem?_eq_some_iff.1 hx).2
    rw [hdr, List.any_cons] at hall
    have dFin : ∀ b en, b = hasF r 118 → Fin D res37 (.c (.b b)) en := fun b en hb ρ a w' hw hn hwf hd hr => dRet _ _ (fin b en hb ρ a w' (hw.toC dS.symm dw.symm dr.symm dn.symm) (by rw [← dn]; exact hn) hwf (hd.trans ddf) (fun fn h => by rw [← dP]; exact hr fn h))
    cases hc : (x.head? == some (118 : UInt8)) with
    | true =>
      (refine VT_ok hctr (rs := res37) true 300 _ _ _ ?_; simp (maxSteps := 1000000) only [VT, jf, jg, jZ, ja, jd, je, VC, qA, qB, qC, qD, qE, qF, qG, qH, qI, qJ, qK, qL, qM, qN, qO, qP, qQ, qR, qS, qT, qU, qV, qW, qX, qY, qZ, qe, qf, qg, qh, qj, qk, ql, qm, qn, qo, qp, qq, q0t, qu, qv, ev, qw, qy, qz, zA, zB, zC, zD, zE, zF, zG, zH, zI, zJ, TE.sv, zK, zL, zM, ↓reduceIte, reduceCtorEq, Value.oneCell', Nat.reduceEqDiff, Nat.reduceAdd, Nat.reduceLT, Nat.reduceBEq, Nat.reduceSub, Nat.reduceLeDiff, zP, zQ, zR, zS, zT, zU, zV, zW, zX, zY, zZ, za, zb, zc, zd, ze, zf, zg, zh, zi, zj, zk, zl, zm, zn, zo, zp, zq, zr, zt, zu, zw, zx, zy, zz, cE, jA, jB, hap, killE, deadOf, rwE, cD, cO, jC, jD, jE, jF, jG, jH, jI, jJ, jK, jL, jM, jN, jO, jP, jQ, jR, jS, jT, jU, jV, jW, jX, jY, hP, hk, res37, kp37, prC, rowPre1, rpS, slHas, q1, p0, p1, hr, hc, Int.toNat_natCast, Nat.mul_one])
      exact dFin true _ (by rw [hall, hc]; rfl)
    | false =>
      rw [hc, Bool.false_or] at hall
      (refine VT_ok hctr (rs := res37) true 300 _ _ _ ?_; simp (maxSteps := 1000000) only [VT, jf, jg, jZ, ja, jd, je, VC, qA, qB, qC, qD, qE, qF, qG, qH, qI, qJ, qK, qL, qM, qN, qO, qP, qQ, qR, qS, qT, qU, qV, qW, qX, qY, qZ, qe, qf, qg, qh, qj, qk, ql, qm, qn, qo, qp, qq, q0t, qu, qv, ev, qw, qy, qz, zA, zB, zC, zD, zE, zF, zG, zH, zI, zJ, TE.sv, zK, zL, zM, ↓reduceIte, reduceCtorEq, Value.oneCell', Nat.reduceEqDiff, Nat.reduceAdd, Nat.reduceLT, Nat.reduceBEq, Nat.reduceSub, Nat.reduceLeDiff, zP, zQ, zR, zS, zT, zU, zV, zW, zX, zY, zZ, za, zb, zc, zd, ze, zf, zg, zh, zi, zj, zk, zl, zm, zn, zo, zp, zq, zr, zt, zu, zw, zx, zy, zz, cE, jA, jB, hap, killE, deadOf, rwE, cD, cO, jC, jD, jE, jF, jG, jH, jI, jJ, jK, jL, jM, jN, jO, jP, jQ, jR, jS, jT, jU, jV, jW, jX, jY, hP, hk, res37, kp37, prC, rowPre1, rpS, slHas, q1, p0, p1, p3, hr, hc, Int.toNat_natCast, Nat.mul_one])
      exact hJ ⟨j + 1, by omega, hall⟩ _ (by show fn - (j + 1) < fn - j; omega) (sub_mk ⟨rfl, rfl, rfl, rfl, trivial⟩)
  · have q1 : decide ((j : Int) < (fn : Int)) = false := decide_eq_false (by omega)
    (refine VT_ok hctr (rs := res37) true 300 _ _ _ ?_; simp (maxSteps := 1000000) only [VT, jf, jg, jZ, ja, jd, je, VC, qA, qB, qC, qD, qE, qF, qG, qH, qI, qJ, qK, qL, qM, qN, qO, qP, qQ, qR, qS, qT, qU, qV, qW, qX, qY, qZ, qe, qf, qg, qh, qj, qk, ql, qm, qn, qo, qp, qq, q0t, qu, qv, ev, qw, qy, qz, zA, zB, zC, zD, zE, zF, zG, zH, zI, zJ, TE.sv, zK, zL, zM, ↓reduceIte, reduceCtorEq, Value.oneCell', Nat.reduceEqDiff, Nat.reduceAdd, Nat.reduceLT, Nat.reduceBEq, Nat.reduceSub, Nat.reduceLeDiff, zP, zQ, zR, zS, zT, zU, zV, zW, zX, zY, zZ, za, zb, zc, zd, ze, zf, zg, zh, zi, zj, zk, zl, zm, zn, zo, zp, zq, zr, zt, zu, zw, zx, zy, zz, cE, jA, jB, hap, killE, deadOf, rwE, cD, cO, jC, jD, jE, jF, jG, jH, jI, jJ, jK, jL, jM, jN, jO, jP, jQ, jR, jS, jT, jU, jV, jW, jX, jY, hP, hk, res37, kp37, prC, rowPre1, rpS, slHas, q1])
    refine hX rfl rfl ?_
    have hP := hP0; have hk := hk0; have hctr := hctr0
    (refine VT_ok hctr (rs := res37) true 300 _ _ _ ?_; simp (maxSteps := 1000000) only [VT, jf, jg, jZ, ja, jd, je, VC, qA, qB, qC, qD, qE, qF, qG, qH, qI, qJ, qK, qL, qM, qN, qO, qP, qQ, qR, qS, qT, qU, qV, qW, qX, qY, qZ, qe, qf, qg, qh, qj, qk, ql, qm, qn, qo, qp, qq, q0t, qu, qv, ev, qw, qy, qz, zA, zB, zC, zD, zE, zF, zG, zH, zI, zJ, TE.sv, zK, zL, zM, ↓reduceIte, reduceCtorEq, Value.oneCell', Nat.reduceEqDiff, Nat.reduceAdd, Nat.reduceLT, Nat.reduceBEq, Nat.reduceSub, Nat.reduceLeDiff, zP, zQ, zR, zS, zT, zU, zV, zW, zX, zY, zZ, za, zb, zc, zd, ze, zf, zg, zh, zi, zj, zk, zl, zm, zn, zo, zp, zq, zr, zt, zu, zw, zx, zy, zz, cE, jA, jB, hap, killE, deadOf, rwE, cD, cO, jC, jD, jE, jF, jG, jH, jI, jJ, jK, jL, jM, jN, jO, jP, jQ, jR, jS, jT, jU, jV, jW, jX, jY, hP, hk, res37, kp37, prC, rowPre1, rpS, slHas, q1])
    rw [List.drop_of_length_le (by omega)] at hall
    exact fin false _ (by rw [hall]; rfl)
end
def rowLine (en : List EN) (xs : List SV) : Option (Prop × SV) := match rowJoinR en xs with
  | some (p, .c (.s j)) => some (p, .c (.s (j ++ crlf)))
  | _ => none
theorem joinR_frz (en : List EN) (xs : List SV) : rowJoinR (frz en) xs = rowJoinR en xs := by
  unfold rowJoinR
  split
  · rename_i N n
    rw [frz_nth]
    cases zD en N with
    | none => rfl
    | some e => rfl
  · rename_i c n m
    rw [frz_nth]
    cases zD en c with
    | none => rfl
    | some e => rfl
  · rfl
def lnC : Ctr := fun f en xs => match f with
  | 61 => rowJoinR en xs
  | _ => none
theorem lnC_ok {C : Cx} (hP : C.P = Tryz.prog) : CtrOk C lnC := by
  intro f en xs p v h hp ρ w hup hHp hHo hinj hwf
  unfold lnC at h
  split at h
  · rw [hP]; exact ⟨fun args w => Tryz.call61 args w, rowJoinR_ok h hp hHp hHo⟩
  · cases h
theorem joinR_len {en : List EN} {xs : List SV} {p : Prop} {j : List UInt8} (h : rowJoinR en xs = some (p, .c (.s j))) (hp : p) : j.length ≤ 140737488355328 := by
  unfold rowJoinR at h
  split at h
  · split at h <;> try cases h
    split at h <;> simp only [Option.some.injEq, Prod.mk.injEq, reduceCtorEq] at h
    obtain ⟨rfl, h⟩ := h
    injection h with h; injection h with h
    rw [← h]; exact hp.2.2.2.2.2
  · split at h <;> try cases h
    split at h <;> simp only [Option.some.injEq, Prod.mk.injEq, reduceCtorEq] at h
    obtain ⟨rfl, h⟩ := h
    injection h with h; injection h with h
    rw [← h]; exact hp.2.2.2.2.2.2
  · cases h
theorem rowLine_ok {ρ : Nat → RE} {en : List EN} {w : World} {xs : List SV} {p : Prop} {v : SV} (h : rowLine en xs = some (p, v)) (hp : p) (hHp : Hp ρ (· < en.length) en w) (hHo : Ho ρ (· < en.length) en) (hinj : Inj ρ (· < en.length) en) (hwf : ∀ x ∈ xs, x.wf (· < en.length)) :
    v.wf (· < en.length) ∧ Calls Tryz.prog 31 (xs.map (SV.den ρ)).toArray w fun e w' => e = .returned (v.den ρ) ∧ Below w.heap.size w w' := by
  unfold rowLine at h
  split at h <;> simp only [Option.some.injEq, Prod.mk.injEq, reduceCtorEq] at h
  rename_i p' j hj
  obtain ⟨rfl, rfl⟩ := h
  have hl := joinR_len hj hp
  obtain ⟨x, rfl⟩ : ∃ x : SC, xs = [.c x] := by
    unfold rowJoinR at hj
    split at hj
    · exact ⟨_, rfl⟩
    · exact ⟨_, rfl⟩
    · cases hj
  refine ⟨trivial, ?_⟩
  rw [← joinR_frz] at hj
  refine calls_of_Run Tryz.func31 rfl kp31 (S := Non) (ρ := ρ) (en := frz en) [.c x] Tryz.ntmps31 (at_frz hHp hHo hinj) (fun y hy => by rw [frz_len]; exact hwf y hy) (by simp) ?_
  intro C hC hP hk
  have hctr := lnC_ok hP
  (refine VT_ok hctr (rs := res31) true 300 _ _ _ ?_; simp (maxSteps := 1000000) only [VT, jf, jg, jZ, ja, jd, je, VC, qA, qB, qC, qD, qE, qF, qG, qH, qI, qJ, qK, qL, qM, qN, qO, qP, qQ, qR, qS, qT, qU, qV, qW, qX, qY, qZ, qe, qf, qg, qh, qj, qk, ql, qm, qn, qo, qp, qq, q0t, qu, qv, ev, qw, qy, qz, zA, zB, zC, zD, zE, zF, zG, zH, zI, zJ, TE.sv, zK, zL, zM, ↓reduceIte, reduceCtorEq, Value.oneCell', Nat.reduceEqDiff, Nat.reduceAdd, Nat.reduceLT, Nat.reduceBEq, Nat.reduceSub, Nat.reduceLeDiff, zP, zQ, zR, zS, zT, zU, zV, zW, zX, zY, zZ, za, zb, zc, zd, ze, zf, zg, zh, zi, zj, zk, zl, zm, zn, zo, zp, zq, zr, zt, zu, zw, zx, zy, zz, cE, jA, jB, hap, killE, deadOf, rwE, cD, cO, jC, jD, jE, jF, jG, jH, jI, jJ, jK, jL, jM, jN, jO, jP, jQ, jR, jS, jT, jU, jV, jW, jX, jY, hP, hk, res31, kp31, lnC, hj, hp, List.length_cons, List.length_nil])
  exact ⟨by omega, Fin_ro (v := .c (.s (j ++ crlf))) hC hres31 rfl trivial⟩
end Go.Proofs.YtlaagebdbcmckaaGreatDoor
