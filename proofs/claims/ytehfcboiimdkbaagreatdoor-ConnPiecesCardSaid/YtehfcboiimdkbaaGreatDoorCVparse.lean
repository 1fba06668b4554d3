/- text.Parse, walked. -/
import Derived.Test.YtehfcboiimdkbaaGreatDoorCVlineP
import Derived.Test.YtehfcboiimdkbaaGreatDoorBC
namespace Go.Proofs.YtehfcboiimdkbaaGreatDoor
set_option linter.unusedSimpArgs false
set_option linter.unusedVariables false
set_option linter.unusedSimpArgs false
set_option linter.unusedVariables false
set_option maxHeartbeats 8000000
open Go.RowKit
set_option maxRecDepth 100000
def wdEV (ws : List (List UInt8)) : EN := rwE 9 1 ws.length (ws.map SC.s)
theorem split_hV {C : Cx} {nE N : Nat} {mk : Nat → Prop} {en en' : List EN} (s : List UInt8) (hs : s.length ≤ 100000) (hP : C.P = Tryz.prog) (hE : ∀ w, Upd C.S C.w0 w → EnvTV w) (hmk : ∀ q, mk q ↔ q = N) (hn0 : C.n0 ≤ N) (hN : zD en' N = some (wdEV (wordsF (s.length + 1) s))) (hq : ∀ q, q ≠ N → zD en' q = zD en q) :
    HCall C nE mk en en' 36 [.c (.s s)] (.c (.rw N (wordsF (s.length + 1) s).length)) := by
  have hcw : ∀ (ρ : Nat → RE) (l : List (List UInt8)), dens ρ (l.map SC.s) = l.map encW := fun ρ l => by simp [dens, SC.den, encW, Function.comp_def]
  refine fresh_h (vals := (wordsF (s.length + 1) s).map encW) (fun args w => by rw [hP]; exact Tryz.call36 args w) hmk hn0 hN hq (by show ¬ (9 : Nat) = DEAD; decide) (fun ρ => hcw ρ _) ?_ (fun pr h => h) ?_
  · intro pr x hx
    simp only [wdEV, rwE, List.mem_map] at hx
    obtain ⟨y, _, rfl⟩ := hx
    trivial
  · intro ρ pr w hw _ _
    rw [hP]
    obtain ⟨m, hm⟩ := (hE w hw.up).max
    refine (split_any s hs m w hm).mono ?_
    rintro z w' ⟨v, rfl, ⟨o1, o2⟩, hb⟩
    generalize wordsF (s.length + 1) s = ws at o1 o2 ⊢
    rcases o2 with ⟨rfl, h0⟩ | ⟨g, cap, cur, rfl, h1, h2, h3, h4, h5, h6⟩
    · obtain rfl := List.eq_nil_of_length_eq_zero h0
      refine ⟨⟨w.heap.size, [], [], 0, some none⟩, ⟨rfl, ⟨rfl, .inr ⟨rfl, rfl, rfl⟩⟩, (fun h => by cases h), (fun _ => rfl), (fun _ => Nat.le_refl _)⟩, fun ρ' _ hr => ?_, hb⟩
      simp only [SV.den, SC.den, hr]; rfl
    · rw [Nat.mul_one] at h5 h6
      refine ⟨⟨g, [], cur.toList.drop ws.length, cap, none⟩, ⟨rfl, ⟨by simp [wdEV], .inl ⟨rfl, rfl, ?_, h3, h4⟩⟩, fun _ => ⟨h1, ?_⟩, fun h => absurd rfl h, fun h => absurd rfl h⟩, fun ρ' _ hr => ?_, hb⟩
      · simp [wdEV, h5]; omega
      · rw [h2, List.nil_append, ← h6, List.take_append_drop]; rfl
      · simp only [SV.den, SC.den, hr]; rfl
def parseC : Ctr := fun f en xs => match f with
  | 22 => (match xs with
    | [.c (.s l)] => some (l.length < 4294967281, .t [.c (.s (lineV l).1), .c (.i .i64 (((lineV l).2 : Nat) : Int))])
    | _ => none)
  | _ => tCB f en xs
theorem parseC_ok {C : Cx} (hP : C.P = Tryz.prog) (hE : ∀ w, Upd C.S C.w0 w → EnvTV w) : CtrOk C parseC := by
  intro f en xs p v h hp ρ w hup hHp hHo hinj hwf
  unfold parseC at h
  split at h
  · rw [hP]
    refine ⟨fun args w => Tryz.call22 args w, ?_⟩
    split at h <;> simp only [Option.some.injEq, Prod.mk.injEq, reduceCtorEq] at h
    obtain ⟨rfl, rfl⟩ := h
    exact ⟨by intro x hx; simp at hx; rcases hx with rfl | rfl <;> trivial, line_wV _ hp w (hE w hup)⟩
  · exact tC1_ok' hP f en xs p v h hp ρ w hup hHp hHo hinj hwf
theorem wordsF_eachV : ∀ (k : Nat) (l : List UInt8), ∀ x ∈ wordsF k l, x.length ≤ l.length := by
  intro k
  induction k with
  | zero => intro l x hx; cases hx
  | succ k ih =>
    intro l x hx
    rw [words_step] at hx
    split at hx
    · cases hx
    · have h1 := (List.dropWhile_sublist (p := (· == (32 : UInt8))) (l := l)).length_le
      rcases List.mem_cons.1 hx with rfl | hx
      · exact Nat.le_trans (List.takeWhile_sublist _).length_le h1
      · have h2 := (List.dropWhile_sublist (p := (· != (32 : UInt8))) (l := l.dropWhile (· == 32))).length_le
        have := ih _ x hx
        rw [List.length_drop] at this
        omega
def PPost (w : World) (x : Rq × Int) (e : Ending) (w' : World) : Prop := Below w.heap.size w w' ∧ ∃ v, e = .returned (.tuple #[v, .int .i64 x.2]) ∧ ReqV w.heap.size w' v x.1
theorem parse_w (b : List UInt8) (hb : b.length ≤ 9223372036854775807) (w : World) (hE0 : EnvTV w) : Calls Tryz.prog 27 #[.string ⟨b.toArray⟩] w (PPost w (tParse b)) := by
  refine calls_of_Run Tryz.func27 rfl kp27 (S := Non) (ρ := fun _ => reOfV 0) (en := []) [.c (.s b)] Tryz.ntmps27 (At.nil _ _ _) (by simp [SV.wf, SC.wf]) (by simp) ?_
  intro C hC hP hk
  have hE : ∀ w', Upd C.S C.w0 w' → EnvTV w' := fun w' hu => by rw [hC] at hu; exact hE0.below hu.to_below
  have hctr := parseC_ok hP hE
  obtain ⟨k, hk2⟩ : ∃ k : Int, (if (2048 : Int) < (b.length : Int) then 2048 else (b.length : Int)) = k := ⟨_, rfl⟩
  have hkk : k = ((b.take 2048).length : Int) := by rw [← hk2, List.length_take]; split <;> omega
  have hkt : b.take k.toNat = b.take 2048 := by
    rw [hkk, Int.toNat_natCast, List.length_take, List.take_eq_take_iff]; omega
  have k0 : 0 ≤ k := by omega
  have k1 : k ≤ (b.length : Int) := by rw [hkk, List.length_take]; omega
  have kl : (b.take 2048).length < 4294967281 := by rw [List.length_take]; omega
  obtain ⟨s, n, hsn⟩ : ∃ s n, lineV (b.take 2048) = (s, n) := ⟨_, _, rfl⟩
  (refine VT_ok hctr (rs := res27) true 300 _ _ _ ?_; simp (maxSteps := 1000000) only [VT, jf, jg, jZ, ja, jd, je, VC, qA, qB, qC, qD, qE, qF, qG, qH, qI, qJ, qK, qL, qM, qN, qO, qP, qQ, qR, qS, qT, qU, qV, qW, qX, qY, qZ, qe, qf, qg, qh, qj, qk, ql, qm, qn, qo, qp, qq, q0t, qu, qv, ev, qw, qy, qz, zA, zB, zC, zD, zE, zF, zG, zH, zI, zJ, TE.sv, zK, zL, zM, ↓reduceIte, reduceCtorEq, Value.oneCell', Nat.reduceEqDiff, Nat.reduceAdd, Nat.reduceLT, Nat.reduceBEq, Nat.reduceSub, Nat.reduceLeDiff, zP, zQ, zR, zS, zT, zU, zV, zW, zX, zY, zZ, za, zb, zc, zd, ze, zf, zg, zh, zi, zj, zk, zl, zm, zn, zo, zp, zq, zr, zt, zu, zw, zx, zy, zz, cE, jA, jB, hap, killE, deadOf, rwE, cD, cO, jC, jD, jE, jF, jG, jH, jI, jJ, jK, jL, jM, jN, jO, jP, jQ, jR, jS, jT, jU, jV, jW, jX, jY, hP, hk, res27, kp27, parseC, tCB, rowBad, hk2, hkt, k0, k1, kl, hsn, List.drop_zero, Int.toNat_zero, Int.le_refl])
  have hfin : ∀ (r : Rq) (m : Int) (en : List EN), tParse b = (r, m) → r.cmds = [] → Fin C res27 (.t [.g (rqS noCmds r), .c (.i .i64 m)]) en := fun r m en h1 h2 => by
    refine Fin_cx hC hres27 fun ρ w' hw _ _ => ?_
    have hup := hw.up
    rw [hC] at hup
    exact ⟨hup.to_below, _, by rw [h1]; rfl, _, rfl, .inl ⟨by rw [h1]; exact h2, rfl⟩⟩
  by_cases hn : n = 0
  · subst hn
    have c1 : (((0 : Nat) : Int) == 0) = true := rfl
    by_cases hs : b.length < 2048
    · have c2 : decide ((b.length : Int) < 2048) = true := decide_eq_true (by omega)
      simp (maxSteps := 1000000) only [VT, jf, jg, jZ, ja, jd, je, VC, qA, qB, qC, qD, qE, qF, qG, qH, qI, qJ, qK, qL, qM, qN, qO, qP, qQ, qR, qS, qT, qU, qV, qW, qX, qY, qZ, qe, qf, qg, qh, qj, qk, ql, qm, qn, qo, qp, qq, q0t, qu, qv, ev, qw, qy, qz, zA, zB, zC, zD, zE, zF, zG, zH, zI, zJ, TE.sv, zK, zL, zM, ↓reduceIte, reduceCtorEq, Value.oneCell', Nat.reduceEqDiff, Nat.reduceAdd, Nat.reduceLT, Nat.reduceBEq, Nat.reduceSub, Nat.reduceLeDiff, zP, zQ, zR, zS, zT, zU, zV, zW, zX, zY, zZ, za, zb, zc, zd, ze, zf, zg, zh, zi, zj, zk, zl, zm, zn, zo, zp, zq, zr, zt, zu, zw, zx, zy, zz, cE, jA, jB, hap, killE, deadOf, rwE, cD, cO, jC, jD, jE, jF, jG, jH, jI, jJ, jK, jL, jM, jN, jO, jP, jQ, jR, jS, jT, jU, jV, jW, jX, jY, hP, hk, res27, kp27, parseC, tCB, rowBad, c1, c2, rqS, noCmds, Rq.zero]
      exact hfin Rq.zero 0 _ (by unfold tParse; simp only [hsn]; rw [if_pos trivial, if_pos hs]) rfl
    · have c2 : decide ((b.length : Int) < 2048) = false := decide_eq_false (by omega)
      simp (maxSteps := 1000000) only [VT, jf, jg, jZ, ja, jd, je, VC, qA, qB, qC, qD, qE, qF, qG, qH, qI, qJ, qK, qL, qM, qN, qO, qP, qQ, qR, qS, qT, qU, qV, qW, qX, qY, qZ, qe, qf, qg, qh, qj, qk, ql, qm, qn, qo, qp, qq, q0t, qu, qv, ev, qw, qy, qz, zA, zB, zC, zD, zE, zF, zG, zH, zI, zJ, TE.sv, zK, zL, zM, ↓reduceIte, reduceCtorEq, Value.oneCell', Nat.reduceEqDiff, Nat.reduceAdd, Nat.reduceLT, Nat.reduceBEq, Nat.reduceSub, Nat.reduceLeDiff, zP, zQ, zR, zS, zT, zU, zV, zW, zX, zY, zZ, za, zb, zc, zd, ze, zf, zg, zh, zi, zj, zk, zl, zm, zn, zo, zp, zq, zr, zt, zu, zw, zx, zy, zz, cE, jA, jB, hap, killE, deadOf, rwE, cD, cO, jC, jD, jE, jF, jG, jH, jI, jJ, jK, jL, jM, jN, jO, jP, jQ, jR, jS, jT, jU, jV, jW, jX, jY, hP, hk, res27, kp27, parseC, tCB, rowBad, c1, c2, rqS, noCmds, Rq.zero, badR]
      exact hfin { badR b_long with close := true } 2048 _ (by unfold tParse; simp only [hsn]; rw [if_pos trivial, if_neg hs]) rfl
  · have c1 : ((n : Int) == 0) = false := by simpa using hn
    simp (maxSteps := 1000000) only [VT, jf, jg, jZ, ja, jd, je, VC, qA, qB, qC, qD, qE, qF, qG, qH, qI, qJ, qK, qL, qM, qN, qO, qP, qQ, qR, qS, qT, qU, qV, qW, qX, qY, qZ, qe, qf, qg, qh, qj, qk, ql, qm, qn, qo, qp, qq, q0t, qu, qv, ev, qw, qy, qz, zA, zB, zC, zD, zE, zF, zG, zH, zI, zJ, TE.sv, zK, zL, zM, ↓reduceIte, reduceCtorEq, Value.oneCell', Nat.reduceEqDiff, Nat.reduceAdd, Nat.reduceLT, Nat.reduceBEq, Nat.reduceSub, Nat.reduceLeDiff, zP, zQ, zR, zS, zT, zU, zV, zW, zX, zY, zZ, za, zb, zc, zd, ze, zf, zg, zh, zi, zj, zk, zl, zm, zn, zo, zp, zq, zr, zt, zu, zw, zx, zy, zz, cE, jA, jB, hap, killE, deadOf, rwE, cD, cO, jC, jD, jE, jF, jG, jH, jI, jJ, jK, jL, jM, jN, jO, jP, jQ, jR, jS, jT, jU, jV, jW, jX, jY, hP, hk, res27, kp27, parseC, tCB, rowBad, c1, rqS, noCmds, Rq.zero]
    have hsl : s.length ≤ 100000 ∧ n ≤ (b.take 2048).length := by
      have h1 : (lineV (b.take 2048)).1 = s := by rw [hsn]
      have h2 : (lineV (b.take 2048)).2 = n := by rw [hsn]
      have ht := (List.takeWhile_sublist (p := (· != (10 : UInt8))) (l := b.take 2048)).length_le
      have hl : (b.take 2048).length ≤ 2048 := by rw [List.length_take]; omega
      unfold lineV at h1 h2
      simp only at h1 h2
      split at h1
      · rename_i hlt
        rw [if_pos hlt] at h2
        refine ⟨?_, by simp only at h2; omega⟩
        simp only at h1
        split at h1
        · rw [← h1, List.length_dropLast]; omega
        · rw [← h1]; omega
      · rename_i hlt
        rw [if_neg hlt] at h2
        exact absurd h2.symm hn
    obtain ⟨hs1, hs2⟩ := hsl
    have hnb : (n : Int) ≤ (b.length : Int) := by rw [List.length_take] at hs2; omega
    have hn0 : (0 : Int) ≤ (n : Int) := by omega
    obtain ⟨ws, hws⟩ : ∃ ws, wordsF (s.length + 1) s = ws := ⟨_, rfl⟩
    (refine Run_drawE hctr (by rw [hP]; rfl) rs27_8 [jB (fun N => .c (.rw N ws.length)) (fun _ => wdEV ws)] (ensure_type_of% (Cmp.of (by simp (maxSteps := 1000000) only [VC, qA, qB, qC, qD, qE, qF, qG, qH, qI, qJ, qK, qL, qM, qN, qO, qP, qQ, qR, qS, qT, qU, qV, qW, qX, qY, qZ, qe, qf, qg, qh, qj, qk, ql, qm, qn, qo, qp, qq, q0t, qu, qv, ev, qw, qy, qz, zA, zB, zC, zD, zE, zF, zG, zH, zI, zJ, TE.sv, zK, zL, zM, ↓reduceIte, reduceCtorEq, Value.oneCell', Nat.reduceEqDiff, Nat.reduceAdd, Nat.reduceLT, Nat.reduceBEq, Nat.reduceSub, Nat.reduceLeDiff, zP, zQ, zR, zS, zT, zU, zV, zW, zX, zY, zZ, za, zb, zc, zd, ze, zf, zg, zh, zi, zj, zk, zl, zm, zn, zo, zp, zq, zr, zt, zu, zw, zx, zy, zz, cE, jA, jB, hap, killE, deadOf, rwE, cD, cO, jC, jD, jE, jF, jG, jH, jI, jJ, jK, jL, jM, jN, jO, jP, jQ, jR, jS, jT, jU, jV, jW, jX, jY, hP, parseC, tCB, rowBad, c1, rqS, noCmds, Rq.zero, wdEV, hnb, hn0, Int.toNat_natCast, Int.le_refl, List.take_length]; rfl)) "" Cmp.mk) (by kernel_rfl) (by kernel_rfl) (by first | exact lenB_one _ | kernel_rfl) (by kernel_rfl) (by rfl) (by rfl) (by first | exact firstN_self _ | rfl) (by rfl) ?_ ?_; rotate_left; refine VT_ok hctr (rs := res27) true 300 _ _ _ ?_; simp (maxSteps := 1000000) only [VT, jf, jg, jZ, ja, jd, je, VC, qA, qB, qC, qD, qE, qF, qG, qH, qI, qJ, qK, qL, qM, qN, qO, qP, qQ, qR, qS, qT, qU, qV, qW, qX, qY, qZ, qe, qf, qg, qh, qj, qk, ql, qm, qn, qo, qp, qq, q0t, qu, qv, ev, qw, qy, qz, zA, zB, zC, zD, zE, zF, zG, zH, zI, zJ, TE.sv, zK, zL, zM, ↓reduceIte, reduceCtorEq, Value.oneCell', Nat.reduceEqDiff, Nat.reduceAdd, Nat.reduceLT, Nat.reduceBEq, Nat.reduceSub, Nat.reduceLeDiff, zP, zQ, zR, zS, zT, zU, zV, zW, zX, zY, zZ, za, zb, zc, zd, ze, zf, zg, zh, zi, zj, zk, zl, zm, zn, zo, zp, zq, zr, zt, zu, zw, zx, zy, zz, cE, jA, jB, hap, killE, deadOf, rwE, cD, cO, jC, jD, jE, jF, jG, jH, jI, jJ, jK, jL, jM, jN, jO, jP, jQ, jR, jS, jT, jU, jV, jW, jX, jY, hP, hk, res27, kp27, parseC, tCB, rowBad, c1, rqS, noCmds, Rq.zero, wdEV, hnb, hn0, Int.toNat_natCast, Int.le_refl, List.take_length]; rotate_left; simp (maxSteps := 1000000) only [VC, qA, qB, qC, qD, qE, qF, qG, qH, qI, qJ, qK, qL, qM, qN, qO, qP, qQ, qR, qS, qT, qU, qV, qW, qX, qY, qZ, qe, qf, qg, qh, qj, qk, ql, qm, qn, qo, qp, qq, q0t, qu, qv, ev, qw, qy, qz, zA, zB, zC, zD, zE, zF, zG, zH, zI, zJ, TE.sv, zK, zL, zM, ↓reduceIte, reduceCtorEq, Value.oneCell', Nat.reduceEqDiff, Nat.reduceAdd, Nat.reduceLT, Nat.reduceBEq, Nat.reduceSub, Nat.reduceLeDiff, zP, zQ, zR, zS, zT, zU, zV, zW, zX, zY, zZ, za, zb, zc, zd, ze, zf, zg, zh, zi, zj, zk, zl, zm, zn, zo, zp, zq, zr, zt, zu, zw, zx, zy, zz, cE, jA, jB, hap, killE, deadOf, rwE, cD, cO, jC, jD, jE, jF, jG, jH, jI, jJ, jK, jL, jM, jN, jO, jP, jQ, jR, jS, jT, jU, jV, jW, jX, jY, hP, parseC, tCB, rowBad, c1, rqS, noCmds, Rq.zero, wdEV, hnb, hn0, Int.toNat_natCast, Int.le_refl, List.take_length])
    · rw [← hws]
      exact split_hV s hs1 hP hE (mkC_head (by simp)) (by rw [hC]; exact Nat.zero_le _) rfl (fun q _ => rfl)
    have htp : tParse b = lineR n (b.drop n) ws := by
      unfold tParse
      simp only [hsn]
      rw [if_neg hn, hws]
    cases ws with
    | nil =>
      have c2 : (((0 : Nat) : Int) == 0) = true := rfl
      simp (maxSteps := 1000000) only [VT, jf, jg, jZ, ja, jd, je, VC, qA, qB, qC, qD, qE, qF, qG, qH, qI, qJ, qK, qL, qM, qN, qO, qP, qQ, qR, qS, qT, qU, qV, qW, qX, qY, qZ, qe, qf, qg, qh, qj, qk, ql, qm, qn, qo, qp, qq, q0t, qu, qv, ev, qw, qy, qz, zA, zB, zC, zD, zE, zF, zG, zH, zI, zJ, TE.sv, zK, zL, zM, ↓reduceIte, reduceCtorEq, Value.oneCell', Nat.reduceEqDiff, Nat.reduceAdd, Nat.reduceLT, Nat.reduceBEq, Nat.reduceSub, Nat.reduceLeDiff, zP, zQ, zR, zS, zT, zU, zV, zW, zX, zY, zZ, za, zb, zc, zd, ze, zf, zg, zh, zi, zj, zk, zl, zm, zn, zo, zp, zq, zr, zt, zu, zw, zx, zy, zz, cE, jA, jB, hap, killE, deadOf, rwE, cD, cO, jC, jD, jE, jF, jG, jH, jI, jJ, jK, jL, jM, jN, jO, jP, jQ, jR, jS, jT, jU, jV, jW, jX, jY, hP, hk, res27, kp27, parseC, tCB, rowBad, c2, rqS, noCmds, badR, Rq.zero]
      exact hfin (badR f_unknown) n _ htp rfl
    | cons x rest =>
      have c2 : (((x :: rest).length : Int) == 0) = false := by simp; omega
      have hlen : (x :: rest).length = rest.length + 1 := rfl
      obtain ⟨m, hm⟩ : ∃ m, (x :: rest).length = m := ⟨_, rfl⟩
      rw [hm] at c2
      rw [hm]
      simp (maxSteps := 1000000) only [VT, jf, jg, jZ, ja, jd, je, VC, qA, qB, qC, qD, qE, qF, qG, qH, qI, qJ, qK, qL, qM, qN, qO, qP, qQ, qR, qS, qT, qU, qV, qW, qX, qY, qZ, qe, qf, qg, qh, qj, qk, ql, qm, qn, qo, qp, qq, q0t, qu, qv, ev, qw, qy, qz, zA, zB, zC, zD, zE, zF, zG, zH, zI, zJ, TE.sv, zK, zL, zM, ↓reduceIte, reduceCtorEq, Value.oneCell', Nat.reduceEqDiff, Nat.reduceAdd, Nat.reduceLT, Nat.reduceBEq, Nat.reduceSub, Nat.reduceLeDiff, zP, zQ, zR, zS, zT, zU, zV, zW, zX, zY, zZ, za, zb, zc, zd, ze, zf, zg, zh, zi, zj, zk, zl, zm, zn, zo, zp, zq, zr, zt, zu, zw, zx, zy, zz, cE, jA, jB, hap, killE, deadOf, rwE, cD, cO, jC, jD, jE, jF, jG, jH, jI, jJ, jK, jL, jM, jN, jO, jP, jQ, jR, jS, jT, jU, jV, jW, jX, jY, hP, hk, res27, kp27, parseC, tCB, rowBad, c2, rqS, noCmds, Rq.zero]
      intro ρ a w1 hr
      have hQ : C.Q = bodyPost Tryz.prog Tryz.f27 (PPost w (tParse b)) := by rw [hC]; rfl
      have hdf : C.df = [] := by rw [hC]; rfl
      have hm1 : m = rest.length + 1 := hm.symm
      -- the blocks
      obtain ⟨k0', p0, r0a, r0b, r0n⟩ := ent_blkV (c := 0) hr.hw.hp hr.hw.ho (by show 0 < 3; decide) rfl (by decide) (by simp)
      obtain ⟨k2', p2, r2a, r2b, r2n⟩ := ent_blkV (c := 2) hr.hw.hp hr.hw.ho (by show 2 < 3; decide) rfl (by decide) (by simp)
      have hnl : (ρ 1).nl = none := Decidable.byContradiction fun hd => by have := (hr.hw.hp 1 _ _ _ (by show 1 < 3; decide) rfl).non hd; simp at this
      obtain ⟨_, _, hO⟩ := hr.hw.ho 1 _ _ _ (by show 1 < 3; decide) rfl
      obtain ⟨_, r1a, _, r1c, _⟩ := hO.resolve_right (fun hd => by rw [hnl] at hd; exact absurd hd.1 (by simp))
      have hwd := (hr.hw.hp 1 _ _ _ (by show 1 < 3; decide) rfl).heap ⟨(by show ¬ (9 : Nat) = DEAD; decide), hnl⟩
      rw [r1a, List.nil_append] at hwd
      obtain ⟨g0, hg0⟩ : ∃ g, g = (ρ 0).blk := ⟨_, rfl⟩
      obtain ⟨gw, hgw⟩ : ∃ g, g = (ρ 1).blk := ⟨_, rfl⟩
      obtain ⟨gl, hgl⟩ : ∃ g, g = (ρ 2).blk := ⟨_, rfl⟩
      obtain ⟨cp, hcp⟩ : ∃ c, c = (ρ 1).cap := ⟨_, rfl⟩
      have d0 := (deadE_of (r := ρ 0) (en := [(⟨(30, 0, whole), [.i .i64 0, .v (.slice none 0 0), .b false, .b false, .s [], .s [], .i .i64 0, .b false, .s [], .v (.slice none 0 0), .s []], true⟩ : EN)]) (c := 0) rfl).2 ⟨(by show ¬ (30 : Nat) = DEAD; decide), r0n⟩
      have n01 : g0 ≠ gw := fun e => by
        have := hr.hw.inj 0 1 (by show 0 < 3; decide) (by show 1 < 3; decide) d0 ((deadE_of rfl).2 ⟨(by show ¬ (9 : Nat) = DEAD; decide), hnl⟩) (by rw [← hg0, ← hgw, e])
        cases this
      have n02 : g0 ≠ gl := fun e => by
        have := hr.hw.inj 0 2 (by show 0 < 3; decide) (by show 2 < 3; decide) d0 ((deadE_of rfl).2 ⟨(by show ¬ (77 : Nat) = DEAD; decide), r2n⟩) (by rw [← hg0, ← hgl, e])
        cases this
      have n12 : gw ≠ gl := fun e => by
        have := hr.hw.inj 1 2 (by show 1 < 3; decide) (by show 2 < 3; decide) ((deadE_of rfl).2 ⟨(by show ¬ (9 : Nat) = DEAD; decide), hnl⟩) ((deadE_of rfl).2 ⟨(by show ¬ (77 : Nat) = DEAD; decide), r2n⟩) (by rw [← hgw, ← hgl, e])
        cases this
      have hup1 : Below w.heap.size w w1 := by have := hr.hw.up; rw [hC] at this; exact this.to_below
      have hnew : w.heap.size ≤ g0 ∧ w.heap.size ≤ gl := by
        have q0 := hr.hw.mu 0 _ _ (by show 0 < 3; decide) rfl
        have q2 := hr.hw.mu 2 _ _ (by show 2 < 3; decide) rfl
        rw [hC] at q0 q2
        exact ⟨by rw [hg0]; exact q0.resolve_left (fun h => h), by rw [hgl]; exact q2.resolve_left (fun h => h)⟩
      have hword : ∀ (i : Nat) y, (x :: rest)[i]? = some y → w1.cell? ⟨gw, i, none⟩ = some (.string ⟨y.toArray⟩) := by
        intro i y hy
        rw [hgw, Go.cell_of_row w1 _ i _ _ (0, 0) hwd]
        have hi := (List.getElem?_eq_some_iff.1 hy).1
        simp only [List.getElem?_toArray]
        rw [List.getElem?_append_left (by simpa [dens] using hi)]
        simp only [dens, List.getElem?_map]
        rw [show (SC.s x :: List.map SC.s rest) = (x :: rest).map SC.s from rfl, List.getElem?_map, hy]
        rfl
      have hgwl : gw < w1.heap.size := by rw [hgw]; exact (Array.getElem?_eq_some_iff.1 hwd).1
      have hcm : m ≤ cp := by rw [hcp]; exact r1c
      -- on from here, the words raw
      obtain ⟨L, hL⟩ : ∃ L : List (Nat × TypeId × List SC × Bool), L = [(g0, 30, rqS noCmds Rq.zero, true), (gl, 77, lnC [] (.v (.slice (some ⟨gw, 0, none⟩) m cp)) (b.drop n) 0 false, true)] := ⟨_, rfl⟩
      have hat : At (Two g0 gl) (roL L) (enL L) w1 := by
        rw [hL]
        refine at_list ?_ ?_
        · intro y hy
          simp only [List.mem_cons, List.not_mem_nil, or_false] at hy
          rcases hy with rfl | rfl
          · refine ⟨by rw [hg0]; exact k0', by show ¬ (30 : Nat) = DEAD; decide, ?_, fun _ => .inl rfl⟩
            intro y hy
            simp only [rqS, noCmds, List.mem_cons, List.not_mem_nil, or_false] at hy
            rcases hy with rfl | rfl | rfl | rfl | rfl | rfl | rfl | rfl | rfl | rfl | rfl <;> trivial
          · refine ⟨?_, by show ¬ (77 : Nat) = DEAD; decide, ?_, fun _ => .inr rfl⟩
            · have e1 : (SC.rw 1 m).den ρ = .slice (some ⟨gw, 0, none⟩) m cp := by rw [hgw, hcp]; exact rwOf_on hnl m
              have : dens ρ [.s [], .rw 1 m, .s (b.drop n), .i .i64 0, .b false] = dens (roL L) (lnC [] (.v (.slice (some ⟨gw, 0, none⟩) m cp)) (b.drop n) 0 false) := by
                simp only [dens, lnC, List.map_cons, List.map_nil, e1]; rfl
              rw [this, hL] at k2'
              rw [hgl]; exact k2'
            · intro y hy
              simp only [lnC, List.mem_cons, List.not_mem_nil, or_false] at hy
              rcases hy with rfl | rfl | rfl | rfl | rfl <;> trivial
        · intro i j y z hi hj he
          match i, j, hi, hj with
          | 0, 0, _, _ => rfl
          | 1, 1, _, _ => rfl
          | 0, 1, hi, hj => simp at hi hj; subst hi; subst hj; exact absurd he n02
          | 1, 0, hi, hj => simp at hi hj; subst hi; subst hj; exact absurd he.symm n02
          | i + 2, _, hi, _ => simp at hi
          | 0, j + 2, _, hj => simp at hj
          | 1, j + 2, _, hj => simp at hj
      obtain ⟨C2, hC2⟩ : ∃ C2 : Cx, C2 = ⟨Tryz.prog, C.Q, Two g0 gl, w1, roL L, 2, C.kp, C.df⟩ := ⟨_, rfl⟩
      have hr2 : Rep C2 (roL L) 80 [(7, .c (.p 1 0)), (5, .c (.i .i64 (n : Int))), (2, .c (.p 0 0))] (enL L) a w1 := by
        have q0 : (roL L 0) = ⟨g0, [], [], 0, none⟩ := by rw [hL]; rfl
        have q1 : (roL L 1) = ⟨gl, [], [], 0, none⟩ := by rw [hL]; rfl
        have hlen : (enL L).length = 2 := by rw [hL]; rfl
        rw [hC2]
        refine ⟨⟨hat.hp, hat.ho, hat.inj, Upd.refl _ _, fun c ty cells hc he => .inl (hat.mu c ty cells hc he), fun _ _ => rfl⟩, ?_, hr.sz, hr.df, by show 2 ≤ _; omega⟩
        intro d v hd
        simp only [qy] at hd
        split at hd
        · rename_i e; subst e; cases hd
          refine ⟨?_, by show 1 < _; omega⟩
          rw [(hr.tm 7 (.c (.p 2 0)) rfl).1]
          show some (ptrOf ρ 2 0) = some (ptrOf _ 1 0)
          rw [p2, ← hgl]; simp [ptrOf, q1]
        · split at hd
          · rename_i e; subst e; cases hd
            exact ⟨(hr.tm 5 (.c (.i .i64 (n : Int))) rfl).1, trivial⟩
          · split at hd
            · rename_i e; subst e; cases hd
              refine ⟨?_, by show 0 < _; omega⟩
              rw [(hr.tm 2 (.c (.p 0 0)) rfl).1]
              show some (ptrOf ρ 0 0) = some (ptrOf _ 0 0)
              rw [p0, ← hg0]; simp [ptrOf, q0]
            · cases hd
      rw [← KQ_congr (C := C) (D := C2) (by rw [hC2]; exact hP.symm) (by rw [hC2])]
      have hP2 : C2.P = Tryz.prog := by rw [hC2]
      have hk2' : C2.kp = kp27 := by rw [hC2]; exact hk
      have hrd : C2.rd gw 0 1 = some [.s x] := rd_of (vs := [.string ⟨x.toArray⟩]) (by
        intro w' hu j v hv
        have hj : j = 0 := by have := (List.getElem?_eq_some_iff.1 hv).1; simp at this; exact this
        subst hj
        rw [hC2] at hu
        simp only [List.getElem?_cons_zero, Option.some.injEq] at hv
        rw [← hv]
        exact (hu.cell (p := ⟨gw, 0 + 0, none⟩) hgwl (by rintro (e | e); exact n01 e.symm; exact n12 e)).trans (hword 0 x rfl)) rfl
      refine (?_ : Run C2 _ 80 _ (enL L)) (roL L) a w1 hr2
      rw [hL]
      have hP' := hP; have hk' := hk
      have hP := hP2; have hk := hk2'
      have hctr := noC_ok hP
      obtain ⟨oo, hoo⟩ : ∃ oo, (if cp = 1 then 0 else 0 + 1) = oo := ⟨_, rfl⟩
      have q1 : (0 : Int) ≤ 1 := by decide
      have q2 : (1 : Int) ≤ (m : Int) := by omega
      have q3 : (m : Int) ≤ (cp : Int) := by omega
      have q4 : (0 : Int) < (m : Int) := by omega
      (refine Run_drawE hctr (by rw [hP]; rfl) rs27_11 [] (ensure_type_of% (Cmp.of (by simp (maxSteps := 1000000) only [VC, qA, qB, qC, qD, qE, qF, qG, qH, qI, qJ, qK, qL, qM, qN, qO, qP, qQ, qR, qS, qT, qU, qV, qW, qX, qY, qZ, qe, qf, qg, qh, qj, qk, ql, qm, qn, qo, qp, qq, q0t, qu, qv, ev, qw, qy, qz, zA, zB, zC, zD, zE, zF, zG, zH, zI, zJ, TE.sv, zK, zL, zM, ↓reduceIte, reduceCtorEq, Value.oneCell', Nat.reduceEqDiff, Nat.reduceAdd, Nat.reduceLT, Nat.reduceBEq, Nat.reduceSub, Nat.reduceLeDiff, zP, zQ, zR, zS, zT, zU, zV, zW, zX, zY, zZ, za, zb, zc, zd, ze, zf, zg, zh, zi, zj, zk, zl, zm, zn, zo, zp, zq, zr, zt, zu, zw, zx, zy, zz, cE, jA, jB, hap, killE, deadOf, rwE, cD, cO, jC, jD, jE, jF, jG, jH, jI, jJ, jK, jL, jM, jN, jO, jP, jQ, jR, jS, jT, jU, jV, jW, jX, jY, hP, noC, enL, roL, lnC, rqS, noCmds, Rq.zero, List.map_cons, List.map_nil, hrd, Int.toNat_zero, Int.toNat_one, Nat.zero_mul, Nat.mul_one, Nat.add_zero, Int.le_refl, hoo, q1, q2, q3, q4]; rfl)) "" Cmp.mk) (by kernel_rfl) (by kernel_rfl) (by first | exact lenB_one _ | kernel_rfl) (by kernel_rfl) (by rfl) (by rfl) (by first | exact firstN_self _ | rfl) (by rfl) ?_ ?_; rotate_left; refine VT_ok hctr (rs := [.tmp 99999]) true 300 _ _ _ ?_; simp (maxSteps := 1000000) only [VT, jf, jg, jZ, ja, jd, je, VC, qA, qB, qC, qD, qE, qF, qG, qH, qI, qJ, qK, qL, qM, qN, qO, qP, qQ, qR, qS, qT, qU, qV, qW, qX, qY, qZ, qe, qf, qg, qh, qj, qk, ql, qm, qn, qo, qp, qq, q0t, qu, qv, ev, qw, qy, qz, zA, zB, zC, zD, zE, zF, zG, zH, zI, zJ, TE.sv, zK, zL, zM, ↓reduceIte, reduceCtorEq, Value.oneCell', Nat.reduceEqDiff, Nat.reduceAdd, Nat.reduceLT, Nat.reduceBEq, Nat.reduceSub, Nat.reduceLeDiff, zP, zQ, zR, zS, zT, zU, zV, zW, zX, zY, zZ, za, zb, zc, zd, ze, zf, zg, zh, zi, zj, zk, zl, zm, zn, zo, zp, zq, zr, zt, zu, zw, zx, zy, zz, cE, jA, jB, hap, killE, deadOf, rwE, cD, cO, jC, jD, jE, jF, jG, jH, jI, jJ, jK, jL, jM, jN, jO, jP, jQ, jR, jS, jT, jU, jV, jW, jX, jY, hP, hk, kp27, noC, enL, roL, lnC, rqS, noCmds, Rq.zero, List.map_cons, List.map_nil, hrd, Int.toNat_zero, Int.toNat_one, Nat.zero_mul, Nat.mul_one, Nat.add_zero, Int.le_refl, hoo, q1, q2, q3, q4]; rotate_left; simp (maxSteps := 1000000) only [VC, qA, qB, qC, qD, qE, qF, qG, qH, qI, qJ, qK, qL, qM, qN, qO, qP, qQ, qR, qS, qT, qU, qV, qW, qX, qY, qZ, qe, qf, qg, qh, qj, qk, ql, qm, qn, qo, qp, qq, q0t, qu, qv, ev, qw, qy, qz, zA, zB, zC, zD, zE, zF, zG, zH, zI, zJ, TE.sv, zK, zL, zM, ↓reduceIte, reduceCtorEq, Value.oneCell', Nat.reduceEqDiff, Nat.reduceAdd, Nat.reduceLT, Nat.reduceBEq, Nat.reduceSub, Nat.reduceLeDiff, zP, zQ, zR, zS, zT, zU, zV, zW, zX, zY, zZ, za, zb, zc, zd, ze, zf, zg, zh, zi, zj, zk, zl, zm, zn, zo, zp, zq, zr, zt, zu, zw, zx, zy, zz, cE, jA, jB, hap, killE, deadOf, rwE, cD, cO, jC, jD, jE, jF, jG, jH, jI, jJ, jK, jL, jM, jN, jO, jP, jQ, jR, jS, jT, jU, jV, jW, jX, jY, hP, noC, enL, roL, lnC, rqS, noCmds, Rq.zero, List.map_cons, List.map_nil, hrd, Int.toNat_zero, Int.toNat_one, Nat.zero_mul, Nat.mul_one, Nat.add_zero, Int.le_refl, hoo, q1, q2, q3, q4])
      refine Run_ocall rfl rfl (fun args w => by rw [hP]; exact Tryz.call40 args w) (fun ρ3 a3 w3 hr3 hwf => ?_)
      have i0 : ρ3 0 = ⟨g0, [], [], 0, none⟩ := by rw [hr3.hw.ini 0 (by rw [hC2]; exact Nat.zero_lt_two), hC2, hL]; rfl
      have i1 : ρ3 1 = ⟨gl, [], [], 0, none⟩ := by rw [hr3.hw.ini 1 (by rw [hC2]; exact Nat.one_lt_two), hC2, hL]; rfl
      obtain ⟨b0, _⟩ := ent_blkV (c := 0) hr3.hw.hp hr3.hw.ho (by show 0 < 2; decide) rfl (by decide) (by simp)
      obtain ⟨b1, _⟩ := ent_blkV (c := 1) hr3.hw.hp hr3.hw.ho (by show 1 < 2; decide) rfl (by decide) (by simp)
      rw [i0] at b0; rw [i1] at b1
      have hup3 : Upd (Two g0 gl) w1 w3 := by have := hr3.hw.up; rw [hC2] at this; exact this
      have hbel : Below w.heap.size w w3 := ⟨hup3.os.trans hup1.os, hup3.tape.trans hup1.tape, hup3.output.trans hup1.output, Nat.le_trans hup1.size hup3.size, fun k hk => (hup3.block k (Nat.lt_of_lt_of_le hk hup1.size) (by rintro (e | e) <;> (have e : k = _ := e; have := hnew.1; have := hnew.2; omega))).trans (hup1.block k hk)⟩
      have hwl : (x :: rest).length ≤ 100000 := by rw [← hws]; exact Nat.le_trans (wordsF_len _ _) hs1
      have hww : ∀ y ∈ x :: rest, y.length ≤ 100000 := fun y hy => by rw [← hws] at hy; exact Nat.le_trans (wordsF_eachV _ _ y hy) hs1
      have hm2 : m - 1 = rest.length := by omega
      have hLn : Ln w3 gl x (some ⟨gw, oo, none⟩) rest.length (cp - 1) rest (b.drop n) 0 false := by
        refine ⟨by rw [← hm2]; exact b1, ?_, Nat.le_refl _, by omega⟩
        intro k y hy
        have hk := (List.getElem?_eq_some_iff.1 hy).1
        have ho1 : oo = 1 := by rw [← hoo, if_neg (by omega)]
        refine ⟨gw, oo, rfl, Nat.lt_of_lt_of_le hgwl hup3.size, n12, ?_⟩
        rw [ho1]
        exact (hup3.cell (p := ⟨gw, 1 + k, none⟩) hgwl (by rintro (e | e); exact n01 e.symm; exact n12 e)).trans (hword (1 + k) y (by rw [Nat.add_comm]; exact hy))
      have hEG : EnvG gl w3 := ⟨w, hE0.env, hnew.2, hbel⟩
      have hread := read_wV hLn (hww x (by simp)) (by simp at hwl; omega) (fun y hy => hww y (List.mem_cons_of_mem _ hy)) (by rw [List.length_drop]; omega) hEG
      have hargs : (List.map (SV.den ρ3) [.c (.p 1 0)]).toArray = #[.pointer (some ⟨gl, 0, none⟩)] := by simp [SV.den, SC.den, ptrOf, i1]
      rw [hP, hargs]
      refine hread.mono ?_
      rintro e w4 ⟨hU4, hm4⟩
      obtain ⟨v, r', more', used', rfl, hrq, hus, hend, hbd⟩ : ∃ v r' more' used', e = .returned (.tuple #[v, .bool more']) ∧ ReqV w3.heap.size w4 v r' ∧ w4.cell? ⟨gl, 3, none⟩ = some (.int .i64 used') ∧ tParse b = (if more' = true then (Rq.zero, 0) else (r', (n : Int) + used')) ∧ (more' = false → 0 ≤ used' ∧ used' ≤ ((b.drop n).length : Int)) := by
        rw [htp]
        cases ho : readR x rest (b.drop n) with
        | fault f =>
          rw [ho] at hm4
          obtain ⟨v, h1, h2, h3⟩ := hm4
          exact ⟨v, badR f, false, 0, h1, h2, h3, by simp [lineR, ho, endR], fun _ => ⟨Int.le_refl _, by omega⟩⟩
        | got r more used =>
          rw [ho] at hm4
          obtain ⟨v, h1, h2, h3⟩ := hm4
          refine ⟨v, r, more, used, h1, h2, h3, ?_, fun hmf => ?_⟩
          · cases more <;> simp [lineR, ho, endR]
          · subst hmf
            exact (read_pre (r := []) ho).2
      obtain ⟨cv, rfl, hcv⟩ := hrq
      obtain ⟨sa, sn, sc, rfl⟩ := cmdv_sl hcv
      refine .inl ⟨_, rfl, ?_⟩
      have b0' : Blk w4 g0 30 (dens (fun _ => reOfV g0) (rqS noCmds Rq.zero)).toArray := b0.upd hU4 (fun e => n02 e)
      have hat3 : At (One g0) (roL [(g0, 30, rqS noCmds Rq.zero, true)]) [⟨(30, 0, whole), rqS noCmds Rq.zero, true⟩] w4 :=
        at_list (S := One g0) (l := [(g0, 30, rqS noCmds Rq.zero, true)]) (w := w4) (fun y hy => by
          simp only [List.mem_cons, List.not_mem_nil, or_false] at hy
          subst hy
          refine ⟨b0', by show ¬ (30 : Nat) = DEAD; decide, ?_, fun _ => rfl⟩
          intro y hy
          simp only [rqS, noCmds, List.mem_cons, List.not_mem_nil, or_false] at hy
          rcases hy with rfl | rfl | rfl | rfl | rfl | rfl | rfl | rfl | rfl | rfl | rfl <;> trivial) (fun i j y z hi hj _ => by
          have h1 := (List.getElem?_eq_some_iff.1 hi).1
          have h2 := (List.getElem?_eq_some_iff.1 hj).1
          simp at h1 h2; omega)
      have q30 : roL [(g0, 30, rqS noCmds Rq.zero, true)] 0 = ⟨g0, [], [], 0, none⟩ := rfl
      obtain ⟨C3, hC3⟩ : ∃ C3 : Cx, C3 = ⟨Tryz.prog, C.Q, One g0, w4, roL [(g0, 30, rqS noCmds Rq.zero, true)], 1, C.kp, C.df⟩ := ⟨_, rfl⟩
      have hr4 : Rep C3 (roL [(g0, 30, rqS noCmds Rq.zero, true)]) 80 [(68, .t [.g (rqS (.v (.slice sa sn sc)) r'), .c (.b more')]), (7, .c (.v (.pointer (some ⟨gl, 0, none⟩)))), (5, .c (.i .i64 (n : Int))), (2, .c (.p 0 0))] [⟨(30, 0, whole), rqS noCmds Rq.zero, true⟩] (a3.put (some 68) (Value.tuple #[rqA (Value.slice sa sn sc) r', Value.bool more'])) w4 := by
        have hr5 : Rep C3 (roL [(g0, 30, rqS noCmds Rq.zero, true)]) 80 [(7, .c (.v (.pointer (some ⟨gl, 0, none⟩)))), (5, .c (.i .i64 (n : Int))), (2, .c (.p 0 0))] [⟨(30, 0, whole), rqS noCmds Rq.zero, true⟩] a3 w4 := by
          rw [hC3]
          refine ⟨⟨hat3.hp, hat3.ho, hat3.inj, Upd.refl _ _, fun c ty cells hc he => .inl (hat3.mu c ty cells hc he), fun _ _ => rfl⟩, ?_, hr3.sz, by rw [hr3.df, hC2], Nat.le_refl _⟩
          intro d v hd
          simp only [qy] at hd
          split at hd
          · rename_i e; subst e; cases hd
            refine ⟨?_, trivial⟩
            rw [(hr3.tm 7 (.c (.p 1 0)) rfl).1]
            simp [SV.den, SC.den, ptrOf, i1]
          · split at hd
            · rename_i e; subst e; cases hd
              exact ⟨(hr3.tm 5 (.c (.i .i64 (n : Int))) rfl).1, trivial⟩
            · split at hd
              · rename_i e; subst e; cases hd
                refine ⟨?_, by show 0 < 1; decide⟩
                rw [(hr3.tm 2 (.c (.p 0 0)) rfl).1]
                simp [SV.den, SC.den, ptrOf, i0, q30]
              · cases hd
        exact hr5.put (d := 68) (by decide) (rq_wf2 _ _ _ _)
      rw [← KQ_congr (C := C2) (D := C3) (by rw [hC2, hC3]) (by rw [hC2, hC3])]
      have hP3 : C3.P = Tryz.prog := by rw [hC3]
      have hk3 : C3.kp = kp27 := by rw [hC3]; exact hk'
      have hS3 : C3.S = One g0 := by rw [hC3]
      have hw03 : C3.w0 = w4 := by rw [hC3]
      have hrd3 : C3.rd gl 3 1 = some [.i .i64 used'] := rd_of (vs := [.int .i64 used']) (by
        intro w' hu j v hv
        have hj : j = 0 := by have := (List.getElem?_eq_some_iff.1 hv).1; simp at this; exact this
        subst hj
        rw [hS3, hw03] at hu
        simp only [List.getElem?_cons_zero, Option.some.injEq] at hv
        rw [← hv]
        have hlt : gl < w4.heap.size := by have := hLn.blk.lt; have := hU4.size; omega
        exact (hu.cell (p := ⟨gl, 3 + 0, none⟩) hlt (fun e => n02 (show gl = g0 from e).symm)).trans hus) rfl
      refine (?_ : Run C3 _ 80 _ _) _ _ w4 hr4
      clear hr4
      have hP := hP3; have hk := hk3
      have hctr := noC_ok hP
      have hCtx : Ctx C3 Tryz.prog Tryz.f27 (PPost w (tParse b)) := ⟨hP3, fun a w h => by rw [hC3]; show C.Q .ret a w; rw [hQ]; exact h, by rw [hC3]; exact hdf⟩
      have hbel4 : ∀ w5, Upd (One g0) w4 w5 → Below w.heap.size w w5 := fun w5 hu => by
        have h1 : Upd Non w w5 := by
          refine Upd.trans (Upd.trans (Upd.of_below hbel) hU4 ?_) hu ?_
          · intro k hk e; have e : k = gl := e; have := hnew.2; omega
          · intro k hk e; have e : k = g0 := e; have := hnew.1; omega
        exact h1.to_below
      cases more' with
      | true =>
        (refine VT_ok hctr (rs := res27) true 300 _ _ _ ?_; simp (maxSteps := 1000000) only [VT, jf, jg, jZ, ja, jd, je, VC, qA, qB, qC, qD, qE, qF, qG, qH, qI, qJ, qK, qL, qM, qN, qO, qP, qQ, qR, qS, qT, qU, qV, qW, qX, qY, qZ, qe, qf, qg, qh, qj, qk, ql, qm, qn, qo, qp, qq, q0t, qu, qv, ev, qw, qy, qz, zA, zB, zC, zD, zE, zF, zG, zH, zI, zJ, TE.sv, zK, zL, zM, ↓reduceIte, reduceCtorEq, Value.oneCell', Nat.reduceEqDiff, Nat.reduceAdd, Nat.reduceLT, Nat.reduceBEq, Nat.reduceSub, Nat.reduceLeDiff, zP, zQ, zR, zS, zT, zU, zV, zW, zX, zY, zZ, za, zb, zc, zd, ze, zf, zg, zh, zi, zj, zk, zl, zm, zn, zo, zp, zq, zr, zt, zu, zw, zx, zy, zz, cE, jA, jB, hap, killE, deadOf, rwE, cD, cO, jC, jD, jE, jF, jG, jH, jI, jJ, jK, jL, jM, jN, jO, jP, jQ, jR, jS, jT, jU, jV, jW, jX, jY, hP, hk, res27, kp27, noC, rqS, noCmds, Rq.zero])
        refine Fin_of (v := .t [.g (rqS noCmds Rq.zero), .c (.i .i64 0)]) hCtx hres27 fun ρ5 w5 hw5 _ _ => ?_
        have hu5 := hw5.up
        rw [hS3, hw03] at hu5
        rw [hend]
        exact ⟨hbel4 w5 hu5, _, rfl, _, rfl, .inl ⟨rfl, rfl⟩⟩
      | false =>
        obtain ⟨u0, u1⟩ := hbd rfl
        have ww : IntKind.i64.wrap ((n : Int) + used') = (n : Int) + used' := IntWalk.i64_in _ (by rw [List.length_drop] at u1; omega)
        (refine VT_ok hctr (rs := res27) true 300 _ _ _ ?_; simp (maxSteps := 1000000) only [VT, jf, jg, jZ, ja, jd, je, VC, qA, qB, qC, qD, qE, qF, qG, qH, qI, qJ, qK, qL, qM, qN, qO, qP, qQ, qR, qS, qT, qU, qV, qW, qX, qY, qZ, qe, qf, qg, qh, qj, qk, ql, qm, qn, qo, qp, qq, q0t, qu, qv, ev, qw, qy, qz, zA, zB, zC, zD, zE, zF, zG, zH, zI, zJ, TE.sv, zK, zL, zM, ↓reduceIte, reduceCtorEq, Value.oneCell', Nat.reduceEqDiff, Nat.reduceAdd, Nat.reduceLT, Nat.reduceBEq, Nat.reduceSub, Nat.reduceLeDiff, zP, zQ, zR, zS, zT, zU, zV, zW, zX, zY, zZ, za, zb, zc, zd, ze, zf, zg, zh, zi, zj, zk, zl, zm, zn, zo, zp, zq, zr, zt, zu, zw, zx, zy, zz, cE, jA, jB, hap, killE, deadOf, rwE, cD, cO, jC, jD, jE, jF, jG, jH, jI, jJ, jK, jL, jM, jN, jO, jP, jQ, jR, jS, jT, jU, jV, jW, jX, jY, hP, hk, res27, kp27, noC, rqS, noCmds, Rq.zero])
        (refine Run_drawE hctr (by rw [hP]; rfl) rs27_15 [] (ensure_type_of% (Cmp.of (by simp (maxSteps := 1000000) only [VC, qA, qB, qC, qD, qE, qF, qG, qH, qI, qJ, qK, qL, qM, qN, qO, qP, qQ, qR, qS, qT, qU, qV, qW, qX, qY, qZ, qe, qf, qg, qh, qj, qk, ql, qm, qn, qo, qp, qq, q0t, qu, qv, ev, qw, qy, qz, zA, zB, zC, zD, zE, zF, zG, zH, zI, zJ, TE.sv, zK, zL, zM, ↓reduceIte, reduceCtorEq, Value.oneCell', Nat.reduceEqDiff, Nat.reduceAdd, Nat.reduceLT, Nat.reduceBEq, Nat.reduceSub, Nat.reduceLeDiff, zP, zQ, zR, zS, zT, zU, zV, zW, zX, zY, zZ, za, zb, zc, zd, ze, zf, zg, zh, zi, zj, zk, zl, zm, zn, zo, zp, zq, zr, zt, zu, zw, zx, zy, zz, cE, jA, jB, hap, killE, deadOf, rwE, cD, cO, jC, jD, jE, jF, jG, jH, jI, jJ, jK, jL, jM, jN, jO, jP, jQ, jR, jS, jT, jU, jV, jW, jX, jY, hP, noC, rqS, noCmds, Rq.zero, hrd3, ww, Nat.reduceAdd]; rfl)) "" Cmp.mk) (by kernel_rfl) (by kernel_rfl) (by first | exact lenB_one _ | kernel_rfl) (by kernel_rfl) (by rfl) (by rfl) (by first | exact firstN_self _ | rfl) (by rfl) ?_ ?_; rotate_left; refine VT_ok hctr (rs := res27) true 300 _ _ _ ?_; simp (maxSteps := 1000000) only [VT, jf, jg, jZ, ja, jd, je, VC, qA, qB, qC, qD, qE, qF, qG, qH, qI, qJ, qK, qL, qM, qN, qO, qP, qQ, qR, qS, qT, qU, qV, qW, qX, qY, qZ, qe, qf, qg, qh, qj, qk, ql, qm, qn, qo, qp, qq, q0t, qu, qv, ev, qw, qy, qz, zA, zB, zC, zD, zE, zF, zG, zH, zI, zJ, TE.sv, zK, zL, zM, ↓reduceIte, reduceCtorEq, Value.oneCell', Nat.reduceEqDiff, Nat.reduceAdd, Nat.reduceLT, Nat.reduceBEq, Nat.reduceSub, Nat.reduceLeDiff, zP, zQ, zR, zS, zT, zU, zV, zW, zX, zY, zZ, za, zb, zc, zd, ze, zf, zg, zh, zi, zj, zk, zl, zm, zn, zo, zp, zq, zr, zt, zu, zw, zx, zy, zz, cE, jA, jB, hap, killE, deadOf, rwE, cD, cO, jC, jD, jE, jF, jG, jH, jI, jJ, jK, jL, jM, jN, jO, jP, jQ, jR, jS, jT, jU, jV, jW, jX, jY, hP, hk, res27, kp27, noC, rqS, noCmds, Rq.zero, hrd3, ww, Nat.reduceAdd]; rotate_left; simp (maxSteps := 1000000) only [VC, qA, qB, qC, qD, qE, qF, qG, qH, qI, qJ, qK, qL, qM, qN, qO, qP, qQ, qR, qS, qT, qU, qV, qW, qX, qY, qZ, qe, qf, qg, qh, qj, qk, ql, qm, qn, qo, qp, qq, q0t, qu, qv, ev, qw, qy, qz, zA, zB, zC, zD, zE, zF, zG, zH, zI, zJ, TE.sv, zK, zL, zM, ↓reduceIte, reduceCtorEq, Value.oneCell', Nat.reduceEqDiff, Nat.reduceAdd, Nat.reduceLT, Nat.reduceBEq, Nat.reduceSub, Nat.reduceLeDiff, zP, zQ, zR, zS, zT, zU, zV, zW, zX, zY, zZ, za, zb, zc, zd, ze, zf, zg, zh, zi, zj, zk, zl, zm, zn, zo, zp, zq, zr, zt, zu, zw, zx, zy, zz, cE, jA, jB, hap, killE, deadOf, rwE, cD, cO, jC, jD, jE, jF, jG, jH, jI, jJ, jK, jL, jM, jN, jO, jP, jQ, jR, jS, jT, jU, jV, jW, jX, jY, hP, noC, rqS, noCmds, Rq.zero, hrd3, ww, Nat.reduceAdd])
        refine Fin_of (v := .t [.g (rqS (.v (.slice sa sn sc)) r'), .c (.i .i64 ((n : Int) + used'))]) hCtx hres27 fun ρ5 w5 hw5 _ _ => ?_
        have hu5 := hw5.up
        rw [hS3, hw03] at hu5
        rw [hend]
        refine ⟨hbel4 w5 hu5, _, rfl, _, rfl, ?_⟩
        rcases hcv with hcv | ⟨h0, gc, cap, rst, m1, m2, m3, m4⟩
        · exact .inl hcv
        · refine .inr ⟨h0, gc, cap, rst, m1, ?_, ?_, m4⟩
          · have := hbel.size; omega
          · rw [hu5.block gc (Array.getElem?_eq_some_iff.1 m3).1 (fun e => by have e : gc = g0 := e; have hb0 : g0 < w3.heap.size := b0.lt; omega)]
            exact m3
end Go.Proofs.YtehfcboiimdkbaaGreatDoor
