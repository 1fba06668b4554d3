/- meta.Parse, walked. Printed by gen_eparse.py. -/
import Derived.Test.YtehfcboiimdkbaaGreatDoorCEread
import Derived.Test.YtehfcboiimdkbaaGreatDoorBC
namespace Go.Proofs.YtehfcboiimdkbaaGreatDoor
set_option linter.unusedSimpArgs false
set_option linter.unusedVariables false
set_option linter.unusedSimpArgs false
set_option linter.unusedVariables false
set_option maxHeartbeats 8000000
open Go.RowKit
set_option maxRecDepth 100000
def wdE (ws : List (List UInt8)) : EN := rwE 9 1 ws.length (ws.map SC.s)
theorem split_h {C : Cx} {nE N : Nat} {mk : Nat → Prop} {en en' : List EN} (s : List UInt8) (hs : s.length ≤ 100000) (hP : C.P = Tryz.prog) (hE : ∀ w, Upd C.S C.w0 w → EnvT w) (hmk : ∀ q, mk q ↔ q = N) (hn0 : C.n0 ≤ N) (hN : zD en' N = some (wdE (wordsF (s.length + 1) s))) (hq : ∀ q, q ≠ N → zD en' q = zD en q) :
    HCall C nE mk en en' 36 [.c (.s s)] (.c (.rw N (wordsF (s.length + 1) s).length)) := by
  have hcw : ∀ (ρ : Nat → RE) (l : List (List UInt8)), dens ρ (l.map SC.s) = l.map encW := fun ρ l => by simp [dens, SC.den, encW, Function.comp_def]
  refine fresh_h (vals := (wordsF (s.length + 1) s).map encW) (fun args w => by rw [hP]; exact Tryz.call36 args w) hmk hn0 hN hq (by show ¬ (9 : Nat) = DEAD; decide) (fun ρ => hcw ρ _) ?_ (fun pr h => h) ?_
  · intro pr x hx
    simp only [wdE, rwE, List.mem_map] at hx
    obtain ⟨y, _, rfl⟩ := hx
    trivial
  · intro ρ pr w hw _ _
    rw [hP]
    obtain ⟨m, hm⟩ := (hE w hw.up).max
    refine (split_any s hs m w hm).mono ?_
    rintro z w' ⟨v, rfl, ⟨o1, o2⟩, hb⟩
    generalize wordsF (s.length + 1) s = ws at o1 o2 ⊢
    rcases o2 with ⟨rfl, h0⟩ | ⟨g, cap, cur, rfl, h1, h2, h3, h4, h5, h6⟩
    · obtain rfl := List.eq_nil_of_length_eq_zero h0
      refine ⟨⟨w.heap.size, [], [], 0, some none⟩, ⟨rfl, ⟨rfl, .inr ⟨rfl, rfl, rfl⟩⟩, (fun h => by cases h), (fun _ => rfl), (fun _ => Nat.le_refl _)⟩, fun ρ' _ hr => ?_, hb⟩
      simp only [SV.den, SC.den, hr]; rfl
    · rw [Nat.mul_one] at h5 h6
      refine ⟨⟨g, [], cur.toList.drop ws.length, cap, none⟩, ⟨rfl, ⟨by simp [wdE], .inl ⟨rfl, rfl, ?_, h3, h4⟩⟩, fun _ => ⟨h1, ?_⟩, fun h => absurd rfl h, fun h => absurd rfl h⟩, fun ρ' _ hr => ?_, hb⟩
      · simp [wdE, h5]; omega
      · rw [h2, List.nil_append, ← h6, List.take_append_drop]; rfl
      · simp only [SV.den, SC.den, hr]; rfl
theorem wordsF_each : ∀ (k : Nat) (l : List UInt8), ∀ x ∈ wordsF k l, x.length ≤ l.length := by
  intro k
  induction k with
  | zero => intro l x hx; cases hx
  | succ k ih =>
    intro l x hx
    rw [words_step] at hx
    split at hx
    · cases hx
    · have h1 := (List.dropWhile_sublist (p := (· == (32 : UInt8))) (l := l)).length_le
      rcases List.mem_cons.1 hx with rfl | hx
      · exact Nat.le_trans (List.takeWhile_sublist _).length_le h1
      · have h2 := (List.dropWhile_sublist (p := (· != (32 : UInt8))) (l := l.dropWhile (· == 32))).length_le
        have := ih _ x hx
        rw [List.length_drop] at this
        omega
theorem dropW_head (p : UInt8 → Bool) : ∀ (l : List UInt8) (c : UInt8) (t : List UInt8), l.dropWhile p = c :: t → p c = false
  | [], c, t, h => by cases h
  | x :: l, c, t, h => by
    rw [List.dropWhile_cons] at h
    split at h
    · exact dropW_head p l c t h
    · rename_i hx
      injection h with h1 h2
      rw [← h1]; simpa using hx
theorem wordsF_ne : ∀ (k : Nat) (l : List UInt8), ∀ x ∈ wordsF k l, x ≠ [] := by
  intro k
  induction k with
  | zero => intro l x hx; cases hx
  | succ k ih =>
    intro l x hx
    rw [words_step] at hx
    split at hx
    · cases hx
    · rename_i hne
      rcases List.mem_cons.1 hx with rfl | hx
      · cases hd : l.dropWhile (· == (32 : UInt8)) with
        | nil => exact absurd hd hne
        | cons c t =>
          have hc := dropW_head _ l c t hd
          have : (c != (32 : UInt8)) = true := by simpa [bne] using hc
          rw [List.takeWhile_cons, this]; simp
      · exact ih _ x hx
theorem read_h {C : Cx} {nE Nw N : Nat} {mk : Nat → Prop} {en en' : List EN} {name : List UInt8} {rest : List (List UInt8)} {behind : List UInt8} {x : Mq × Int × Bool} {r0 : Mq} (hP : C.P = Tryz.prog) (hE : EnvC C) (hw0 : zD en Nw = some (wdE (name :: rest))) (hNw : Nw < nE) (hl : ∀ x ∈ name :: rest, x ≠ [] ∧ x.length ≤ 5000) (hlen : rest.length + 1 ≤ 5000) (hb : behind.length ≤ 9223372036854775807)
    (hx : readM name rest behind = x) (hr0 : rdQ name rest x = r0) (hmk : ∀ q, mk q ↔ q = N ∨ q = N + 1) (hn0 : C.n0 ≤ N) (hN : zD en' N = some (cmE r0)) (hM : zD en' (N + 1) = some (flE r0)) (hq : ∀ q, q ≠ N → q ≠ N + 1 → zD en' q = zD en q) :
    HCall C nE mk en en' 38 [.c (.rw Nw (rest.length + 1)), .c (.s behind)] (.t [.g (mqZ r0 N), .c (.i .i64 x.2.1), .c (.b x.2.2)]) := by
  refine fresh2_h (N := N) (M := N + 1) (e1 := cmE r0) (e2 := flE r0) (vals1 := ecV r0.cmds) (vals2 := r0.flags.map encW) (fun args w => by rw [hP]; exact Tryz.call38 args w) hmk (by omega) hn0 (by omega) hN hM hq (by show ¬ (54 : Nat) = DEAD; decide) (by show ¬ (9 : Nat) = DEAD; decide) (fun ρ => ec_den ρ _) (fun ρ => st_den ρ _) (fun pr => ec_wf pr _) (fun pr => st_wf pr _) (fun pr h1 h2 => ?_) ?_
  · intro y hy
    simp only [List.mem_cons, List.not_mem_nil, or_false] at hy
    rcases hy with rfl | rfl | rfl
    · exact mqR_wf h1 h2
    · trivial
    · trivial
  · intro ρ pr w hw hpr _
    have lN := hpr Nw hNw
    have hne : (name :: rest).map SC.s ≠ [] := by simp
    have hnl : (ρ Nw).nl = none := Decidable.byContradiction fun hd => hne ((hw.hp Nw _ _ _ lN hw0).non hd)
    obtain ⟨_, _, hO⟩ := hw.ho Nw _ _ _ lN hw0
    obtain ⟨_, k1, _, k3, k4⟩ := hO.resolve_right (fun hd => by rw [hnl] at hd; exact absurd hd.1 (by simp))
    have hwd := (hw.hp Nw _ _ _ lN hw0).heap ⟨(by show ¬ (9 : Nat) = DEAD; decide), hnl⟩
    rw [k1, List.nil_append] at hwd
    have hraw : RawT w (some ⟨(ρ Nw).blk, 0, none⟩) (name :: rest) := by
      intro k y hy
      refine ⟨_, 0, rfl, (Array.getElem?_eq_some_iff.1 hwd).1, ?_⟩
      rw [Nat.zero_add, Go.cell_of_row w _ k _ _ (0, 0) hwd]
      have hi := (List.getElem?_eq_some_iff.1 hy).1
      simp only [List.getElem?_toArray]
      rw [List.getElem?_append_left (by simpa [dens] using hi)]
      simp only [dens, List.getElem?_map, hy]
      rfl
    have hv : (SC.rw Nw (rest.length + 1)).den ρ = .slice (some ⟨(ρ Nw).blk, 0, none⟩) (rest.length + 1) (ρ Nw).cap := rwOf_on hnl _
    have hargs : (List.map (SV.den ρ) [.c (.rw Nw (rest.length + 1)), .c (.s behind)]).toArray = #[.slice (some ⟨(ρ Nw).blk, 0, none⟩) (rest.length + 1) (ρ Nw).cap, .string ⟨behind.toArray⟩] := by
      simp only [List.map_cons, List.map_nil, SV.den, hv]; rfl
    rw [hargs, hP]
    refine (read_w (hE w hw.up) hraw rfl k3 k4 hl hlen behind hb).mono ?_
    rintro z w' ⟨hbl, v, rfl, r1, r2, rfl, m1, m2, m3⟩
    rw [hx] at *
    rw [hr0] at *
    refine ⟨r1, r2, m1.made (fun ρ => ec_den ρ _), m2.made (fun ρ => st_den ρ _), m3, fun ρ' _ e1 e2 => ?_, hbl⟩
    rw [← e1, ← e2]; rfl
def eP : Ctr := fun f en xs => match f with
  | 22 => (match xs with
    | [.c (.s l)] => some (l.length < 4294967281, .t [.c (.s (lineV l).1), .c (.i .i64 (((lineV l).2 : Nat) : Int))])
    | _ => none)
  | _ => eR f en xs
theorem eP_ok {C : Cx} (hP : C.P = Tryz.prog) (hE : ∀ w, Upd C.S C.w0 w → EnvT w) : CtrOk C eP := by
  intro f en xs p v h hp ρ w hup hHp hHo hinj hwf
  unfold eP at h
  split at h
  · rw [hP]
    refine ⟨fun args w => Tryz.call22 args w, ?_⟩
    split at h <;> simp only [Option.some.injEq, Prod.mk.injEq, reduceCtorEq] at h
    obtain ⟨rfl, rfl⟩ := h
    exact ⟨by intro x hx; simp at hx; rcases hx with rfl | rfl <;> trivial, line_w _ hp w (hE w hup)⟩
  · exact eR_ok hP (fun w hu => (hE w hu).env) f en xs p v h hp ρ w hup hHp hHo hinj hwf
def MPost (w : World) (x : Mq × Int) (e : Ending) (w' : World) : Prop := Below w.heap.size w w' ∧ ∃ v, e = .returned (.tuple #[v, .int .i64 x.2]) ∧ MqV w.heap.size w' v x.1
theorem mparse_w (b : List UInt8) (hb : b.length ≤ 9223372036854775807) (w : World) (hE0 : EnvT w) : Calls Tryz.prog 26 #[.string ⟨b.toArray⟩] w (MPost w (mParse b)) := by
  refine calls_of_Run Tryz.func26 rfl kp26 (S := Non) (ρ := fun _ => reOf 0) (en := []) [.c (.s b)] Tryz.ntmps26 (At.nil _ _ _) (by simp [SV.wf, SC.wf]) (by simp) ?_
  intro C hC hP hk
  have hE : ∀ w', Upd C.S C.w0 w' → EnvT w' := fun w' hu => by rw [hC] at hu; exact hE0.below hu.to_below
  have hEC : EnvC C := fun w' hu => (hE w' hu).env
  have hctr := eP_ok hP hE
  have hS : C.S = Non := by rw [hC]; rfl
  have hw0 : C.w0 = w := by rw [hC]; rfl
  have hn0 : C.n0 = 0 := by rw [hC]; rfl
  obtain ⟨k, hk2⟩ : ∃ k : Int, (if (2048 : Int) < (b.length : Int) then 2048 else (b.length : Int)) = k := ⟨_, rfl⟩
  have hkk : k = ((b.take 2048).length : Int) := by rw [← hk2, List.length_take]; split <;> omega
  have hkt : b.take k.toNat = b.take 2048 := by
    rw [hkk, Int.toNat_natCast, List.length_take, List.take_eq_take_iff]; omega
  have k0 : 0 ≤ k := by omega
  have k1 : k ≤ (b.length : Int) := by rw [hkk, List.length_take]; omega
  have kl : (b.take 2048).length < 4294967281 := by rw [List.length_take]; omega
  obtain ⟨s, n, hsn⟩ : ∃ s n, lineV (b.take 2048) = (s, n) := ⟨_, _, rfl⟩
  (refine VT_ok hctr (rs := res26) true 300 _ _ _ ?_; simp (maxSteps := 1000000) only [VT, jf, jg, jZ, ja, jd, je, VC, qA, qB, qC, qD, qE, qF, qG, qH, qI, qJ, qK, qL, qM, qN, qO, qP, qQ, qR, qS, qT, qU, qV, qW, qX, qY, qZ, qe, qf, qg, qh, qj, qk, ql, qm, qn, qo, qp, qq, q0t, qu, qv, ev, qw, qy, qz, zA, zB, zC, zD, zE, zF, zG, zH, zI, zJ, TE.sv, zK, zL, zM, ↓reduceIte, reduceCtorEq, Value.oneCell', Nat.reduceEqDiff, Nat.reduceAdd, Nat.reduceLT, Nat.reduceBEq, Nat.reduceSub, Nat.reduceLeDiff, zP, zQ, zR, zS, zT, zU, zV, zW, zX, zY, zZ, za, zb, zc, zd, ze, zf, zg, zh, zi, zj, zk, zl, zm, zn, zo, zp, zq, zr, zt, zu, zw, zx, zy, zz, cE, jA, jB, hap, killE, deadOf, rwE, cD, cO, jC, jD, jE, jF, jG, jH, jI, jJ, jK, jL, jM, jN, jO, jP, jQ, jR, jS, jT, jU, jV, jW, jX, jY, hP, hk, res26, kp26, eP, eR, tC0, ecS, rowMBad, rowKind, rowDec, rowCutSuf, rowParse, rowKeyB, mqS, noS, badM, Int.toNat_natCast, Int.toNat_zero, Int.toNat_one, Nat.mul_one, Nat.zero_mul, Nat.add_zero, Nat.sub_zero, Int.le_refl, Nat.reduceMul, List.drop_zero, hk2, hkt, k0, k1, kl, hsn])
  have hfin : ∀ (r : Mq) (m : Int) (en : List EN), mParse b = (r, m) → r.cmds = [] → r.flags = [] → Fin C res26 (.t [.g (mqS noS noS r), .c (.i .i64 m)]) en := fun r m en h1 h2 h3 => by
    refine Fin_cx (v := .t [.g (mqS noS noS r), .c (.i .i64 m)]) hC hres26 fun ρ w' hw _ _ => ?_
    have hup := hw.up
    rw [hC] at hup
    rw [h1]
    exact ⟨hup.to_below, _, rfl, MqV.none h2 h3⟩
  by_cases hn : n = 0
  · subst hn
    have c1 : (((0 : Nat) : Int) == 0) = true := rfl
    by_cases hs : b.length < 2048
    · have c2 : decide ((b.length : Int) < 2048) = true := decide_eq_true (by omega)
      simp (maxSteps := 1000000) only [VT, jf, jg, jZ, ja, jd, je, VC, qA, qB, qC, qD, qE, qF, qG, qH, qI, qJ, qK, qL, qM, qN, qO, qP, qQ, qR, qS, qT, qU, qV, qW, qX, qY, qZ, qe, qf, qg, qh, qj, qk, ql, qm, qn, qo, qp, qq, q0t, qu, qv, ev, qw, qy, qz, zA, zB, zC, zD, zE, zF, zG, zH, zI, zJ, TE.sv, zK, zL, zM, ↓reduceIte, reduceCtorEq, Value.oneCell', Nat.reduceEqDiff, Nat.reduceAdd, Nat.reduceLT, Nat.reduceBEq, Nat.reduceSub, Nat.reduceLeDiff, zP, zQ, zR, zS, zT, zU, zV, zW, zX, zY, zZ, za, zb, zc, zd, ze, zf, zg, zh, zi, zj, zk, zl, zm, zn, zo, zp, zq, zr, zt, zu, zw, zx, zy, zz, cE, jA, jB, hap, killE, deadOf, rwE, cD, cO, jC, jD, jE, jF, jG, jH, jI, jJ, jK, jL, jM, jN, jO, jP, jQ, jR, jS, jT, jU, jV, jW, jX, jY, hP, hk, res26, kp26, eP, eR, tC0, ecS, rowMBad, rowKind, rowDec, rowCutSuf, rowParse, rowKeyB, mqS, noS, badM, Int.toNat_natCast, Int.toNat_zero, Int.toNat_one, Nat.mul_one, Nat.zero_mul, Nat.add_zero, Nat.sub_zero, Int.le_refl, Nat.reduceMul, List.drop_zero, c1, c2]
      exact hfin Mq.zero 0 _ (by unfold mParse; simp only [hsn]; rw [if_pos trivial, if_pos hs]) rfl rfl
    · have c2 : decide ((b.length : Int) < 2048) = false := decide_eq_false (by omega)
      simp (maxSteps := 1000000) only [VT, jf, jg, jZ, ja, jd, je, VC, qA, qB, qC, qD, qE, qF, qG, qH, qI, qJ, qK, qL, qM, qN, qO, qP, qQ, qR, qS, qT, qU, qV, qW, qX, qY, qZ, qe, qf, qg, qh, qj, qk, ql, qm, qn, qo, qp, qq, q0t, qu, qv, ev, qw, qy, qz, zA, zB, zC, zD, zE, zF, zG, zH, zI, zJ, TE.sv, zK, zL, zM, ↓reduceIte, reduceCtorEq, Value.oneCell', Nat.reduceEqDiff, Nat.reduceAdd, Nat.reduceLT, Nat.reduceBEq, Nat.reduceSub, Nat.reduceLeDiff, zP, zQ, zR, zS, zT, zU, zV, zW, zX, zY, zZ, za, zb, zc, zd, ze, zf, zg, zh, zi, zj, zk, zl, zm, zn, zo, zp, zq, zr, zt, zu, zw, zx, zy, zz, cE, jA, jB, hap, killE, deadOf, rwE, cD, cO, jC, jD, jE, jF, jG, jH, jI, jJ, jK, jL, jM, jN, jO, jP, jQ, jR, jS, jT, jU, jV, jW, jX, jY, hP, hk, res26, kp26, eP, eR, tC0, ecS, rowMBad, rowKind, rowDec, rowCutSuf, rowParse, rowKeyB, mqS, noS, badM, Int.toNat_natCast, Int.toNat_zero, Int.toNat_one, Nat.mul_one, Nat.zero_mul, Nat.add_zero, Nat.sub_zero, Int.le_refl, Nat.reduceMul, List.drop_zero, c1, c2]
      exact hfin { badM b_long 0 with close := true } 2048 _ (by unfold mParse; simp only [hsn]; rw [if_pos trivial, if_neg hs]) rfl rfl
  · have c1 : ((n : Int) == 0) = false := by simpa using hn
    simp (maxSteps := 1000000) only [VT, jf, jg, jZ, ja, jd, je, VC, qA, qB, qC, qD, qE, qF, qG, qH, qI, qJ, qK, qL, qM, qN, qO, qP, qQ, qR, qS, qT, qU, qV, qW, qX, qY, qZ, qe, qf, qg, qh, qj, qk, ql, qm, qn, qo, qp, qq, q0t, qu, qv, ev, qw, qy, qz, zA, zB, zC, zD, zE, zF, zG, zH, zI, zJ, TE.sv, zK, zL, zM, ↓reduceIte, reduceCtorEq, Value.oneCell', Nat.reduceEqDiff, Nat.reduceAdd, Nat.reduceLT, Nat.reduceBEq, Nat.reduceSub, Nat.reduceLeDiff, zP, zQ, zR, zS, zT, zU, zV, zW, zX, zY, zZ, za, zb, zc, zd, ze, zf, zg, zh, zi, zj, zk, zl, zm, zn, zo, zp, zq, zr, zt, zu, zw, zx, zy, zz, cE, jA, jB, hap, killE, deadOf, rwE, cD, cO, jC, jD, jE, jF, jG, jH, jI, jJ, jK, jL, jM, jN, jO, jP, jQ, jR, jS, jT, jU, jV, jW, jX, jY, hP, hk, res26, kp26, eP, eR, tC0, ecS, rowMBad, rowKind, rowDec, rowCutSuf, rowParse, rowKeyB, mqS, noS, badM, Int.toNat_natCast, Int.toNat_zero, Int.toNat_one, Nat.mul_one, Nat.zero_mul, Nat.add_zero, Nat.sub_zero, Int.le_refl, Nat.reduceMul, List.drop_zero, c1]
    have hsl : s.length ≤ 2048 ∧ n ≤ (b.take 2048).length := by
      have h1 : (lineV (b.take 2048)).1 = s := by rw [hsn]
      have h2 : (lineV (b.take 2048)).2 = n := by rw [hsn]
      have ht := (List.takeWhile_sublist (p := (· != (10 : UInt8))) (l := b.take 2048)).length_le
      have hl : (b.take 2048).length ≤ 2048 := by rw [List.length_take]; omega
      unfold lineV at h1 h2
      simp only at h1 h2
      split at h1
      · rename_i hlt
        rw [if_pos hlt] at h2
        refine ⟨?_, by simp only at h2; omega⟩
        simp only at h1
        split at h1
        · rw [← h1, List.length_dropLast]; omega
        · rw [← h1]; omega
      · rename_i hlt
        rw [if_neg hlt] at h2
        exact absurd h2.symm hn
    obtain ⟨hs1, hs2⟩ := hsl
    have hnb : (n : Int) ≤ (b.length : Int) := by rw [List.length_take] at hs2; omega
    have hn0' : (0 : Int) ≤ (n : Int) := by omega
    obtain ⟨ws, hws⟩ : ∃ ws, wordsF (s.length + 1) s = ws := ⟨_, rfl⟩
    have htp : mParse b = lineM n (b.drop n) ws := by
      unfold mParse
      simp only [hsn]
      rw [if_neg hn, hws]
    refine Run_hcall rfl (.c (.rw 1 ws.length)) [⟨(30, 0, whole), mqS noS noS Mq.zero, true⟩, wdE ws] (by
      rw [← hws]
      exact split_h s (by omega) hP hE (mk_new rfl) (by rw [hn0]; exact Nat.zero_le _) rfl (fun q hq => by match q with | 0 => rfl | 1 => exact absurd rfl hq | _ + 2 => rfl)) (by simp [zG]) (by simp) ?_
    cases ws with
    | nil =>
      have c2 : decide ((0 : Int) < ((0 : Nat) : Int)) = false := rfl
      (refine VT_ok hctr (rs := res26) true 300 _ _ _ ?_; simp (maxSteps := 1000000) only [VT, jf, jg, jZ, ja, jd, je, VC, qA, qB, qC, qD, qE, qF, qG, qH, qI, qJ, qK, qL, qM, qN, qO, qP, qQ, qR, qS, qT, qU, qV, qW, qX, qY, qZ, qe, qf, qg, qh, qj, qk, ql, qm, qn, qo, qp, qq, q0t, qu, qv, ev, qw, qy, qz, zA, zB, zC, zD, zE, zF, zG, zH, zI, zJ, TE.sv, zK, zL, zM, ↓reduceIte, reduceCtorEq, Value.oneCell', Nat.reduceEqDiff, Nat.reduceAdd, Nat.reduceLT, Nat.reduceBEq, Nat.reduceSub, Nat.reduceLeDiff, zP, zQ, zR, zS, zT, zU, zV, zW, zX, zY, zZ, za, zb, zc, zd, ze, zf, zg, zh, zi, zj, zk, zl, zm, zn, zo, zp, zq, zr, zt, zu, zw, zx, zy, zz, cE, jA, jB, hap, killE, deadOf, rwE, cD, cO, jC, jD, jE, jF, jG, jH, jI, jJ, jK, jL, jM, jN, jO, jP, jQ, jR, jS, jT, jU, jV, jW, jX, jY, hP, hk, res26, kp26, eP, eR, tC0, ecS, rowMBad, rowKind, rowDec, rowCutSuf, rowParse, rowKeyB, mqS, noS, badM, Int.toNat_natCast, Int.toNat_zero, Int.toNat_one, Nat.mul_one, Nat.zero_mul, Nat.add_zero, Nat.sub_zero, Int.le_refl, Nat.reduceMul, List.drop_zero, c2, wdE, rwE, Mq.zero, List.length_nil])
      exact hfin (badM f_unknown 0) n _ (by rw [htp]; rfl) rfl rfl
    | cons name rest =>
      obtain ⟨m, hm⟩ : ∃ m, rest.length + 1 = m := ⟨_, rfl⟩
      have c2 : decide ((0 : Int) < (m : Int)) = true := decide_eq_true (by omega)
      have c3 : (0 : Int) < (m : Int) := by omega
      obtain ⟨kc, hkc⟩ : ∃ kc, (kindM name).1 = kc := ⟨_, rfl⟩
      obtain ⟨al, hal⟩ : ∃ al, (kindM name).2 = al := ⟨_, rfl⟩
      by_cases hk0 : al = []
      · have c4 : (([] : List UInt8) == []) = true := rfl
        subst hk0
        by_cases hmn : name = m_mn
        · have c5 : (name == [109, 110]) = true := by rw [hmn]; rfl
          cases rest with
          | nil =>
            obtain rfl : m = 1 := hm.symm
            have c6 : (((1 : Nat) : Int) == 1) = true := rfl
            (refine VT_ok hctr (rs := res26) true 300 _ _ _ ?_; simp (maxSteps := 1000000) only [VT, jf, jg, jZ, ja, jd, je, VC, qA, qB, qC, qD, qE, qF, qG, qH, qI, qJ, qK, qL, qM, qN, qO, qP, qQ, qR, qS, qT, qU, qV, qW, qX, qY, qZ, qe, qf, qg, qh, qj, qk, ql, qm, qn, qo, qp, qq, q0t, qu, qv, ev, qw, qy, qz, zA, zB, zC, zD, zE, zF, zG, zH, zI, zJ, TE.sv, zK, zL, zM, ↓reduceIte, reduceCtorEq, Value.oneCell', Nat.reduceEqDiff, Nat.reduceAdd, Nat.reduceLT, Nat.reduceBEq, Nat.reduceSub, Nat.reduceLeDiff, zP, zQ, zR, zS, zT, zU, zV, zW, zX, zY, zZ, za, zb, zc, zd, ze, zf, zg, zh, zi, zj, zk, zl, zm, zn, zo, zp, zq, zr, zt, zu, zw, zx, zy, zz, cE, jA, jB, hap, killE, deadOf, rwE, cD, cO, jC, jD, jE, jF, jG, jH, jI, jJ, jK, jL, jM, jN, jO, jP, jQ, jR, jS, jT, jU, jV, jW, jX, jY, hP, hk, res26, kp26, eP, eR, tC0, ecS, rowMBad, rowKind, rowDec, rowCutSuf, rowParse, rowKeyB, mqS, noS, badM, Int.toNat_natCast, Int.toNat_zero, Int.toNat_one, Nat.mul_one, Nat.zero_mul, Nat.add_zero, Nat.sub_zero, Int.le_refl, Nat.reduceMul, List.drop_zero, c2, c3, hkc, hal, c4, c5, c6, Bool.not_true, wdE, rwE, Mq.zero, List.length_cons, hm, List.map_cons, List.map_nil])
            exact hfin ⟨7, [], false, [], 0, false, m_mn, [], []⟩ n _ (by rw [htp, lineM, hal, if_neg (by simp), if_pos ⟨hmn, rfl⟩]) rfl rfl
          | cons y l =>
            have hm : l.length + 1 + 1 = m := hm
            have c6 : ((m : Int) == 1) = false := by
              have : m ≠ 1 := by omega
              have : ¬ (m : Int) = 1 := by omega
              simpa using this
            (refine VT_ok hctr (rs := res26) true 300 _ _ _ ?_; simp (maxSteps := 1000000) only [VT, jf, jg, jZ, ja, jd, je, VC, qA, qB, qC, qD, qE, qF, qG, qH, qI, qJ, qK, qL, qM, qN, qO, qP, qQ, qR, qS, qT, qU, qV, qW, qX, qY, qZ, qe, qf, qg, qh, qj, qk, ql, qm, qn, qo, qp, qq, q0t, qu, qv, ev, qw, qy, qz, zA, zB, zC, zD, zE, zF, zG, zH, zI, zJ, TE.sv, zK, zL, zM, ↓reduceIte, reduceCtorEq, Value.oneCell', Nat.reduceEqDiff, Nat.reduceAdd, Nat.reduceLT, Nat.reduceBEq, Nat.reduceSub, Nat.reduceLeDiff, zP, zQ, zR, zS, zT, zU, zV, zW, zX, zY, zZ, za, zb, zc, zd, ze, zf, zg, zh, zi, zj, zk, zl, zm, zn, zo, zp, zq, zr, zt, zu, zw, zx, zy, zz, cE, jA, jB, hap, killE, deadOf, rwE, cD, cO, jC, jD, jE, jF, jG, jH, jI, jJ, jK, jL, jM, jN, jO, jP, jQ, jR, jS, jT, jU, jV, jW, jX, jY, hP, hk, res26, kp26, eP, eR, tC0, ecS, rowMBad, rowKind, rowDec, rowCutSuf, rowParse, rowKeyB, mqS, noS, badM, Int.toNat_natCast, Int.toNat_zero, Int.toNat_one, Nat.mul_one, Nat.zero_mul, Nat.add_zero, Nat.sub_zero, Int.le_refl, Nat.reduceMul, List.drop_zero, c2, c3, hkc, hal, c4, c5, c6, Bool.not_true, wdE, rwE, Mq.zero, List.length_cons, hm, List.map_cons, List.map_nil])
            exact hfin (badM f_unknown 0) n _ (by rw [htp, lineM, hal, if_neg (by simp), if_neg (by simp)]) rfl rfl
        · have c5 : (name == [109, 110]) = false := by simpa [m_mn] using hmn
          (refine VT_ok hctr (rs := res26) true 300 _ _ _ ?_; simp (maxSteps := 1000000) only [VT, jf, jg, jZ, ja, jd, je, VC, qA, qB, qC, qD, qE, qF, qG, qH, qI, qJ, qK, qL, qM, qN, qO, qP, qQ, qR, qS, qT, qU, qV, qW, qX, qY, qZ, qe, qf, qg, qh, qj, qk, ql, qm, qn, qo, qp, qq, q0t, qu, qv, ev, qw, qy, qz, zA, zB, zC, zD, zE, zF, zG, zH, zI, zJ, TE.sv, zK, zL, zM, ↓reduceIte, reduceCtorEq, Value.oneCell', Nat.reduceEqDiff, Nat.reduceAdd, Nat.reduceLT, Nat.reduceBEq, Nat.reduceSub, Nat.reduceLeDiff, zP, zQ, zR, zS, zT, zU, zV, zW, zX, zY, zZ, za, zb, zc, zd, ze, zf, zg, zh, zi, zj, zk, zl, zm, zn, zo, zp, zq, zr, zt, zu, zw, zx, zy, zz, cE, jA, jB, hap, killE, deadOf, rwE, cD, cO, jC, jD, jE, jF, jG, jH, jI, jJ, jK, jL, jM, jN, jO, jP, jQ, jR, jS, jT, jU, jV, jW, jX, jY, hP, hk, res26, kp26, eP, eR, tC0, ecS, rowMBad, rowKind, rowDec, rowCutSuf, rowParse, rowKeyB, mqS, noS, badM, Int.toNat_natCast, Int.toNat_zero, Int.toNat_one, Nat.mul_one, Nat.zero_mul, Nat.add_zero, Nat.sub_zero, Int.le_refl, Nat.reduceMul, List.drop_zero, c2, c3, hkc, hal, c4, c5, Bool.not_true, wdE, rwE, Mq.zero, List.length_cons, hm, List.map_cons, List.map_nil])
          exact hfin (badM f_unknown 0) n _ (by rw [htp, lineM, hal, if_neg (by simp), if_neg (fun h => hmn h.1)]) rfl rfl
      · have c4 : (al == []) = false := by simpa using hk0
        (refine VT_ok hctr (rs := res26) true 300 _ _ _ ?_; simp (maxSteps := 1000000) only [VT, jf, jg, jZ, ja, jd, je, VC, qA, qB, qC, qD, qE, qF, qG, qH, qI, qJ, qK, qL, qM, qN, qO, qP, qQ, qR, qS, qT, qU, qV, qW, qX, qY, qZ, qe, qf, qg, qh, qj, qk, ql, qm, qn, qo, qp, qq, q0t, qu, qv, ev, qw, qy, qz, zA, zB, zC, zD, zE, zF, zG, zH, zI, zJ, TE.sv, zK, zL, zM, ↓reduceIte, reduceCtorEq, Value.oneCell', Nat.reduceEqDiff, Nat.reduceAdd, Nat.reduceLT, Nat.reduceBEq, Nat.reduceSub, Nat.reduceLeDiff, zP, zQ, zR, zS, zT, zU, zV, zW, zX, zY, zZ, za, zb, zc, zd, ze, zf, zg, zh, zi, zj, zk, zl, zm, zn, zo, zp, zq, zr, zt, zu, zw, zx, zy, zz, cE, jA, jB, hap, killE, deadOf, rwE, cD, cO, jC, jD, jE, jF, jG, jH, jI, jJ, jK, jL, jM, jN, jO, jP, jQ, jR, jS, jT, jU, jV, jW, jX, jY, hP, hk, res26, kp26, eP, eR, tC0, ecS, rowMBad, rowKind, rowDec, rowCutSuf, rowParse, rowKeyB, mqS, noS, badM, Int.toNat_natCast, Int.toNat_zero, Int.toNat_one, Nat.mul_one, Nat.zero_mul, Nat.add_zero, Nat.sub_zero, Int.le_refl, Nat.reduceMul, List.drop_zero, c2, c3, hkc, hal, c4, Bool.not_false, wdE, rwE, Mq.zero, List.length_cons, hm, List.map_cons, List.map_nil, hnb, hn0', List.take_length])
        obtain ⟨xq, used, more, hrm⟩ : ∃ xq used more, readM name rest (b.drop n) = (xq, used, more) := ⟨_, _, _, rfl⟩
        obtain ⟨r0, hr0⟩ : ∃ r0, rdQ name rest (xq, used, more) = r0 := ⟨_, rfl⟩
        subst hm
        refine Run_hcall rfl (.t [.g (mqZ r0 3), .c (.i .i64 used), .c (.b more)]) [⟨(30, 0, whole), mqS noS noS Mq.zero, true⟩, wdE (name :: rest), enC kc true, cmE r0, flE r0] (read_h (C := C) (Nw := 1) (N := 3) (x := (xq, used, more)) hP hEC rfl (by simp [zG]) (fun x hx => ⟨wordsF_ne _ _ x (by rw [hws]; exact hx), by have := wordsF_each _ _ x (by rw [hws]; exact hx); omega⟩) (by have := wordsF_len (s.length + 1) s; rw [hws] at this; simp at this; omega) (by rw [List.length_drop]; omega) hrm hr0 (fun q => by simp only [zG]; omega) (by rw [hn0]; exact Nat.zero_le _) rfl rfl (fun q h1 h2 => by match q with | 0 => rfl | 1 => rfl | 2 => rfl | 3 => exact absurd rfl h1 | 4 => exact absurd rfl h2 | _ + 5 => rfl)) (by simp [zG]) (by simp) ?_
        cases more with
        | true =>
          (refine VT_ok hctr (rs := res26) true 300 _ _ _ ?_; simp (maxSteps := 1000000) only [VT, jf, jg, jZ, ja, jd, je, VC, qA, qB, qC, qD, qE, qF, qG, qH, qI, qJ, qK, qL, qM, qN, qO, qP, qQ, qR, qS, qT, qU, qV, qW, qX, qY, qZ, qe, qf, qg, qh, qj, qk, ql, qm, qn, qo, qp, qq, q0t, qu, qv, ev, qw, qy, qz, zA, zB, zC, zD, zE, zF, zG, zH, zI, zJ, TE.sv, zK, zL, zM, ↓reduceIte, reduceCtorEq, Value.oneCell', Nat.reduceEqDiff, Nat.reduceAdd, Nat.reduceLT, Nat.reduceBEq, Nat.reduceSub, Nat.reduceLeDiff, zP, zQ, zR, zS, zT, zU, zV, zW, zX, zY, zZ, za, zb, zc, zd, ze, zf, zg, zh, zi, zj, zk, zl, zm, zn, zo, zp, zq, zr, zt, zu, zw, zx, zy, zz, cE, jA, jB, hap, killE, deadOf, rwE, cD, cO, jC, jD, jE, jF, jG, jH, jI, jJ, jK, jL, jM, jN, jO, jP, jQ, jR, jS, jT, jU, jV, jW, jX, jY, hP, hk, res26, kp26, eP, eR, tC0, ecS, rowMBad, rowKind, rowDec, rowCutSuf, rowParse, rowKeyB, mqS, noS, badM, Int.toNat_natCast, Int.toNat_zero, Int.toNat_one, Nat.mul_one, Nat.zero_mul, Nat.add_zero, Nat.sub_zero, Int.le_refl, Nat.reduceMul, List.drop_zero, mqZ, Mq.zero, cmE, flE, rwE, wdE, enC])
          exact hfin Mq.zero 0 _ (by rw [htp, lineM, hal, if_pos hk0, hrm]; rfl) rfl rfl
        | false =>
          obtain ⟨_, u0, u1⟩ := readM_pre (r := []) hrm
          have ww : IntKind.i64.wrap ((n : Int) + used) = (n : Int) + used := IntWalk.i64_in _ (by rw [List.length_drop] at u1; omega)
          (refine VT_ok hctr (rs := res26) true 300 _ _ _ ?_; simp (maxSteps := 1000000) only [VT, jf, jg, jZ, ja, jd, je, VC, qA, qB, qC, qD, qE, qF, qG, qH, qI, qJ, qK, qL, qM, qN, qO, qP, qQ, qR, qS, qT, qU, qV, qW, qX, qY, qZ, qe, qf, qg, qh, qj, qk, ql, qm, qn, qo, qp, qq, q0t, qu, qv, ev, qw, qy, qz, zA, zB, zC, zD, zE, zF, zG, zH, zI, zJ, TE.sv, zK, zL, zM, ↓reduceIte, reduceCtorEq, Value.oneCell', Nat.reduceEqDiff, Nat.reduceAdd, Nat.reduceLT, Nat.reduceBEq, Nat.reduceSub, Nat.reduceLeDiff, zP, zQ, zR, zS, zT, zU, zV, zW, zX, zY, zZ, za, zb, zc, zd, ze, zf, zg, zh, zi, zj, zk, zl, zm, zn, zo, zp, zq, zr, zt, zu, zw, zx, zy, zz, cE, jA, jB, hap, killE, deadOf, rwE, cD, cO, jC, jD, jE, jF, jG, jH, jI, jJ, jK, jL, jM, jN, jO, jP, jQ, jR, jS, jT, jU, jV, jW, jX, jY, hP, hk, res26, kp26, eP, eR, tC0, ecS, rowMBad, rowKind, rowDec, rowCutSuf, rowParse, rowKeyB, mqS, noS, badM, Int.toNat_natCast, Int.toNat_zero, Int.toNat_one, Nat.mul_one, Nat.zero_mul, Nat.add_zero, Nat.sub_zero, Int.le_refl, Nat.reduceMul, List.drop_zero, mqZ, Mq.zero, cmE, flE, rwE, wdE, enC, ww])
          have hr0' : xq = r0 := hr0
          subst hr0'
          refine Fin_cx (v := .t [.g (mqZ xq 3), .c (.i .i64 ((n : Int) + used))]) hC hres26 fun ρ w' hw _ _ => ?_
          have hup := hw.up
          rw [hC] at hup
          have k1 := RowOk.of (N := 3) (n := xq.cmds.length) (z := 16) (e := 54) (cells := flatG ecS xq.cmds) hw hS rfl (by decide)
          have k2 := RowOk.of (N := 4) (n := xq.flags.length) (z := 1) (e := 9) (cells := xq.flags.map SC.s) hw hS rfl (by decide)
          rw [hw0] at k1 k2
          rw [ec_den] at k1
          rw [st_den] at k2
          rw [htp, lineM, hal, if_pos hk0, hrm]
          refine ⟨hup.to_below, _, rfl, ⟨ρ 3, ρ 4, rfl, k1, k2, fun h3 h4 he => ?_⟩⟩
          have := hw.inj 3 4 (by simp) (by simp) ((deadE_of rfl).2 ⟨by show ¬ ((54 : Nat) = DEAD); decide, h3⟩) ((deadE_of rfl).2 ⟨by show ¬ ((9 : Nat) = DEAD); decide, h4⟩) he
          cases this
end Go.Proofs.YtehfcboiimdkbaaGreatDoor
