/- The document's flag at any letter, walked; Split's words are wordsF. -/
import Derived.Test.YtlaagebdbcmckaaGreatDoorCMetaDocL
namespace Go.Proofs.YtlaagebdbcmckaaGreatDoor
set_option linter.unusedSimpArgs false
set_option linter.unusedVariables false
set_option linter.unusedSimpArgs false
set_option linter.unusedVariables false
set_option maxHeartbeats 8000000
open Go.RowKit
set_option maxRecDepth 100000
section
variable {r : Mq} {w : World} {ca fa : Option Addr} {cn cc fn fc : Nat}
theorem mqr_wf {pr : Nat → Prop} : wfs pr (mqS (.v (.slice ca cn cc)) (.v (.slice fa fn fc)) r) := by
  intro z hz
  simp only [mqS, List.mem_cons, List.not_mem_nil, or_false] at hz
  rcases hz with rfl | rfl | rfl | rfl | rfl | rfl | rfl | rfl | rfl | rfl | rfl <;> trivial
theorem dN_ok {C : Cx} : CtrOk C (fun _ _ _ => none) := by intro f en xs p v h; cases h
def slDg (k : Nat) (j : Nat) : List (Nat × SV) := [(5, .c (.i .i64 (j : Int))), (2, .c (.p 0 0)), (1, .c (.i .u8 (k : Int)))]
def rqA (ca : Option Addr) (cn cc : Nat) (fa : Option Addr) (fn fc : Nat) (r : Mq) : EN := ⟨(26, 0, whole), mqS (.v (.slice ca cn cc)) (.v (.slice fa fn fc)) r, true⟩
theorem dflagc_w (f : UInt8) (nf : r.flags.length ≤ 5000) (hn : fn = r.flags.length) (hraw : RawT w fa r.flags) : Calls Tryz.prog 51 #[(SV.g (mqS (.v (.slice ca cn cc)) (.v (.slice fa fn fc)) r)).den (fun _ => reOf 0), .int .u8 (f.toNat : Int)] w fun e w' => e = .returned (.bool (anyF r.flags f)) ∧ Below w.heap.size w w' := by
  refine calls_of_Run Tryz.func51 rfl kp51 (S := Non) (ρ := fun _ => reOf 0) (en := []) [.g (mqS (.v (.slice ca cn cc)) (.v (.slice fa fn fc)) r), .c (.i .u8 (f.toNat : Int))] Tryz.ntmps51 (At.nil _ _ _) (by simp only [List.mem_cons, List.not_mem_nil, or_false, forall_eq_or_imp, forall_eq]; exact ⟨mqr_wf, trivial⟩) (by simp) ?_
  intro C hC hP hk
  have hctr : CtrOk C (fun _ _ _ => none) := dN_ok
  have fin : ∀ b en, b = anyF r.flags f → Fin C res51 (.c (.b b)) en := fun b en hb => by subst hb; exact Fin_ro (v := .c (.b (anyF r.flags f))) hC hres51 rfl trivial
  (refine VT_ok hctr (rs := res51) true 300 _ _ _ ?_; simp (maxSteps := 1000000) only [VT, jf, jg, jZ, ja, jd, je, VC, qA, qB, qC, qD, qE, qF, qG, qH, qI, qJ, qK, qL, qM, qN, qO, qP, qQ, qR, qS, qT, qU, qV, qW, qX, qY, qZ, qe, qf, qg, qh, qj, qk, ql, qm, qn, qo, qp, qq, q0t, qu, qv, ev, qw, qy, qz, zA, zB, zC, zD, zE, zF, zG, zH, zI, zJ, TE.sv, zK, zL, zM, ↓reduceIte, reduceCtorEq, Value.oneCell', Nat.reduceEqDiff, Nat.reduceAdd, Nat.reduceLT, Nat.reduceBEq, Nat.reduceSub, Nat.reduceLeDiff, zP, zQ, zR, zS, zT, zU, zV, zW, zX, zY, zZ, za, zb, zc, zd, ze, zf, zg, zh, zi, zj, zk, zl, zm, zn, zo, zp, zq, zr, zt, zu, zw, zx, zy, zz, cE, jA, jB, hap, killE, deadOf, rwE, cD, cO, jC, jD, jE, jF, jG, jH, jI, jJ, jK, jL, jM, jN, jO, jP, jQ, jR, jS, jT, jU, jV, jW, jX, jY, hP, hk, res51, kp51, mqS, Int.toNat_natCast, Nat.mul_one, Nat.reduceMul, Int.le_refl])
  refine Run_loopP (ι := { j : Nat // j ≤ fn ∧ anyF r.flags f = (r.flags.drop j).any fun z => z.head? == some f }) (fun j => slDg f.toNat j.1) (fun _ => [rqA ca cn cc fa fn fc r]) (fun j => fn - j.1) ⟨0, Nat.zero_le _, rfl⟩ (sub_mk ⟨rfl, rfl, rfl, trivial⟩) rfl ?_
  rintro ⟨j, hj, hall⟩ D dP dS dw dn dr dk ddf dPan dRet hX hJ
  have hP0 := hP; have hk0 := hk; have hctr0 := hctr
  have hP : D.P = Tryz.prog := by rw [dP]; exact hP0
  have hk : D.kp = kp51 := by rw [dk]; exact hk0
  have hctr : CtrOk D (fun _ _ _ => none) := dN_ok
  show Run D _ _ (slDg f.toNat j) [rqA ca cn cc fa fn fc r]
  by_cases hjn : j < fn
  · obtain ⟨x, hx⟩ : ∃ x, r.flags[j]? = some x := ⟨_, List.getElem?_eq_getElem (by omega)⟩
    obtain ⟨b0, o, ha, hr⟩ := hraw.rd (D := D) (by rw [dS, hC]; rfl) (by rw [dw, hC]; rfl) hx
    subst ha
    have q1 : decide ((j : Int) < (fn : Int)) = true := decide_eq_true (by omega)
    have p0 : (0 : Int) ≤ (j : Int) := by omega
    have p1 : (j : Int) < (fn : Int) := by omega
    have p3 : IntKind.i64.wrap ((j : Int) + 1) = ((j + 1 : Nat) : Int) := by rw [IntWalk.i64_in _ (by omega)]; rfl
    have hdr : r.flags.drop j = x :: r.flags.drop (j + 1) := by
      rw [List.drop_eq_getElem_cons (by omega)]; congr 1
      exact (List.getElem?_eq_some_iff.1 hx).2
    rw [hdr, List.any_cons] at hall
    have dFin : ∀ b en, b = anyF r.flags f → Fin D res51 (.c (.b b)) en := fun b en hb ρ a w' hw hn hwf hd hr => dRet _ _ (fin b en hb ρ a w' (hw.toC dS.symm dw.symm dr.symm dn.symm) (by rw [← dn]; exact hn) hwf (hd.trans ddf) (fun fn h => by rw [← dP]; exact hr fn h))
    cases x with
    | nil =>
      have c0 : (([] : List UInt8) == []) = true := rfl
      (refine VT_ok hctr (rs := res51) true 300 _ _ _ ?_; simp (maxSteps := 1000000) only [VT, jf, jg, jZ, ja, jd, je, VC, qA, qB, qC, qD, qE, qF, qG, qH, qI, qJ, qK, qL, qM, qN, qO, qP, qQ, qR, qS, qT, qU, qV, qW, qX, qY, qZ, qe, qf, qg, qh, qj, qk, ql, qm, qn, qo, qp, qq, q0t, qu, qv, ev, qw, qy, qz, zA, zB, zC, zD, zE, zF, zG, zH, zI, zJ, TE.sv, zK, zL, zM, ↓reduceIte, reduceCtorEq, Value.oneCell', Nat.reduceEqDiff, Nat.reduceAdd, Nat.reduceLT, Nat.reduceBEq, Nat.reduceSub, Nat.reduceLeDiff, zP, zQ, zR, zS, zT, zU, zV, zW, zX, zY, zZ, za, zb, zc, zd, ze, zf, zg, zh, zi, zj, zk, zl, zm, zn, zo, zp, zq, zr, zt, zu, zw, zx, zy, zz, cE, jA, jB, hap, killE, deadOf, rwE, cD, cO, jC, jD, jE, jF, jG, jH, jI, jJ, jK, jL, jM, jN, jO, jP, jQ, jR, jS, jT, jU, jV, jW, jX, jY, hP, hk, res51, kp51, mqS, Int.toNat_natCast, Nat.mul_one, Nat.reduceMul, Int.le_refl, slDg, rqA, q1, p0, p1, p3, hr, c0, Bool.not_true])
      exact hJ ⟨j + 1, by omega, by simpa using hall⟩ _ (by show fn - (j + 1) < fn - j; omega) (sub_mk ⟨rfl, rfl, rfl, trivial⟩)
    | cons c s =>
      have c0 : ((c :: s : List UInt8) == []) = false := rfl
      have g0 : (0 : Int) ≤ 0 := by decide
      have g1 : (0 : Int) < ((s.length + 1 : Nat) : Int) := by omega
      have g2 : List.length (c :: s : List UInt8) = s.length + 1 := rfl
      have hgd : (c :: s : List UInt8).getD (0 : Int).toNat 0 = c := rfl
      by_cases hc : c = f
      · have e0 : ((c.toNat : Int) == (f.toNat : Int)) = true := by rw [hc]; simp
        (refine VT_ok hctr (rs := res51) true 300 _ _ _ ?_; simp (maxSteps := 1000000) only [VT, jf, jg, jZ, ja, jd, je, VC, qA, qB, qC, qD, qE, qF, qG, qH, qI, qJ, qK, qL, qM, qN, qO, qP, qQ, qR, qS, qT, qU, qV, qW, qX, qY, qZ, qe, qf, qg, qh, qj, qk, ql, qm, qn, qo, qp, qq, q0t, qu, qv, ev, qw, qy, qz, zA, zB, zC, zD, zE, zF, zG, zH, zI, zJ, TE.sv, zK, zL, zM, ↓reduceIte, reduceCtorEq, Value.oneCell', Nat.reduceEqDiff, Nat.reduceAdd, Nat.reduceLT, Nat.reduceBEq, Nat.reduceSub, Nat.reduceLeDiff, zP, zQ, zR, zS, zT, zU, zV, zW, zX, zY, zZ, za, zb, zc, zd, ze, zf, zg, zh, zi, zj, zk, zl, zm, zn, zo, zp, zq, zr, zt, zu, zw, zx, zy, zz, cE, jA, jB, hap, killE, deadOf, rwE, cD, cO, jC, jD, jE, jF, jG, jH, jI, jJ, jK, jL, jM, jN, jO, jP, jQ, jR, jS, jT, jU, jV, jW, jX, jY, hP, hk, res51, kp51, mqS, Int.toNat_natCast, Nat.mul_one, Nat.reduceMul, Int.le_refl, slDg, rqA, q1, p0, p1, p3, hr, c0, g0, g1, g2, hgd, e0, Bool.not_false])
        exact dFin true _ (by rw [hall, hc]; simp)
      · have e0 : ((c.toNat : Int) == (f.toNat : Int)) = false := by
          rw [beq_eq_false_iff_ne]; intro h; exact hc (UInt8.toNat_inj.1 (by omega))
        (refine VT_ok hctr (rs := res51) true 300 _ _ _ ?_; simp (maxSteps := 1000000) only [VT, jf, jg, jZ, ja, jd, je, VC, qA, qB, qC, qD, qE, qF, qG, qH, qI, qJ, qK, qL, qM, qN, qO, qP, qQ, qR, qS, qT, qU, qV, qW, qX, qY, qZ, qe, qf, qg, qh, qj, qk, ql, qm, qn, qo, qp, qq, q0t, qu, qv, ev, qw, qy, qz, zA, zB, zC, zD, zE, zF, zG, zH, zI, zJ, TE.sv, zK, zL, zM, ↓reduceIte, reduceCtorEq, Value.oneCell', Nat.reduceEqDiff, Nat.reduceAdd, Nat.reduceLT, Nat.reduceBEq, Nat.reduceSub, Nat.reduceLeDiff, zP, zQ, zR, zS, zT, zU, zV, zW, zX, zY, zZ, za, zb, zc, zd, ze, zf, zg, zh, zi, zj, zk, zl, zm, zn, zo, zp, zq, zr, zt, zu, zw, zx, zy, zz, cE, jA, jB, hap, killE, deadOf, rwE, cD, cO, jC, jD, jE, jF, jG, jH, jI, jJ, jK, jL, jM, jN, jO, jP, jQ, jR, jS, jT, jU, jV, jW, jX, jY, hP, hk, res51, kp51, mqS, Int.toNat_natCast, Nat.mul_one, Nat.reduceMul, Int.le_refl, slDg, rqA, q1, p0, p1, p3, hr, c0, g0, g1, g2, hgd, e0, Bool.not_false])
        refine hJ ⟨j + 1, by omega, ?_⟩ _ (by show fn - (j + 1) < fn - j; omega) (sub_mk ⟨rfl, rfl, rfl, trivial⟩)
        have : ((c :: s : List UInt8).head? == some f) = false := by simp [hc]
        rw [this, Bool.false_or] at hall; exact hall
  · have q1 : decide ((j : Int) < (fn : Int)) = false := decide_eq_false (by omega)
    (refine VT_ok hctr (rs := res51) true 300 _ _ _ ?_; simp (maxSteps := 1000000) only [VT, jf, jg, jZ, ja, jd, je, VC, qA, qB, qC, qD, qE, qF, qG, qH, qI, qJ, qK, qL, qM, qN, qO, qP, qQ, qR, qS, qT, qU, qV, qW, qX, qY, qZ, qe, qf, qg, qh, qj, qk, ql, qm, qn, qo, qp, qq, q0t, qu, qv, ev, qw, qy, qz, zA, zB, zC, zD, zE, zF, zG, zH, zI, zJ, TE.sv, zK, zL, zM, ↓reduceIte, reduceCtorEq, Value.oneCell', Nat.reduceEqDiff, Nat.reduceAdd, Nat.reduceLT, Nat.reduceBEq, Nat.reduceSub, Nat.reduceLeDiff, zP, zQ, zR, zS, zT, zU, zV, zW, zX, zY, zZ, za, zb, zc, zd, ze, zf, zg, zh, zi, zj, zk, zl, zm, zn, zo, zp, zq, zr, zt, zu, zw, zx, zy, zz, cE, jA, jB, hap, killE, deadOf, rwE, cD, cO, jC, jD, jE, jF, jG, jH, jI, jJ, jK, jL, jM, jN, jO, jP, jQ, jR, jS, jT, jU, jV, jW, jX, jY, hP, hk, res51, kp51, mqS, Int.toNat_natCast, Nat.mul_one, Nat.reduceMul, Int.le_refl, slDg, rqA, q1])
    refine hX rfl rfl ?_
    have hP := hP0; have hk := hk0; have hctr := hctr0
    (refine VT_ok hctr (rs := res51) true 300 _ _ _ ?_; simp (maxSteps := 1000000) only [VT, jf, jg, jZ, ja, jd, je, VC, qA, qB, qC, qD, qE, qF, qG, qH, qI, qJ, qK, qL, qM, qN, qO, qP, qQ, qR, qS, qT, qU, qV, qW, qX, qY, qZ, qe, qf, qg, qh, qj, qk, ql, qm, qn, qo, qp, qq, q0t, qu, qv, ev, qw, qy, qz, zA, zB, zC, zD, zE, zF, zG, zH, zI, zJ, TE.sv, zK, zL, zM, ↓reduceIte, reduceCtorEq, Value.oneCell', Nat.reduceEqDiff, Nat.reduceAdd, Nat.reduceLT, Nat.reduceBEq, Nat.reduceSub, Nat.reduceLeDiff, zP, zQ, zR, zS, zT, zU, zV, zW, zX, zY, zZ, za, zb, zc, zd, ze, zf, zg, zh, zi, zj, zk, zl, zm, zn, zo, zp, zq, zr, zt, zu, zw, zx, zy, zz, cE, jA, jB, hap, killE, deadOf, rwE, cD, cO, jC, jD, jE, jF, jG, jH, jI, jJ, jK, jL, jM, jN, jO, jP, jQ, jR, jS, jT, jU, jV, jW, jX, jY, hP, hk, res51, kp51, mqS, Int.toNat_natCast, Nat.mul_one, Nat.reduceMul, Int.le_refl, slDg, rqA, q1])
    rw [List.drop_of_length_le (by omega)] at hall
    exact fin false _ (by rw [hall]; rfl)
end
theorem spl_word : ∀ (l cur : List UInt8) (out : List (List UInt8)), cur ≠ [] → splD l cur out = splD ((l.dropWhile (· != 32)).drop 1) [] (out ++ [cur ++ l.takeWhile (· != 32)])
  | [], cur, out, h => by simp [splD, h]
  | c :: l, cur, out, h => by
    by_cases hc : c = 32
    · subst hc
      rw [splD, if_pos rfl, if_neg h]
      simp
    · have h1 : (c != 32) = true := by simpa using hc
      rw [splD, if_neg hc, spl_word l (cur ++ [c]) out (by simp), List.dropWhile_cons, if_pos h1, List.takeWhile_cons, if_pos h1]
      simp
theorem spl_sp : ∀ (l : List UInt8) (out : List (List UInt8)), splD l [] out = splD (l.dropWhile (· == 32)) [] out
  | [], out => rfl
  | c :: l, out => by
    by_cases hc : c = 32
    · subst hc
      rw [splD, if_pos rfl, if_pos rfl, List.dropWhile_cons, if_pos (by decide)]
      exact spl_sp l out
    · have h1 : (c == 32) = false := by simpa using hc
      rw [List.dropWhile_cons, h1]; rfl
theorem spl_is : ∀ (k : Nat) (l : List UInt8) (out : List (List UInt8)), l.length < k → splD l [] out = out ++ wordsF k l
  | 0, l, out, h => absurd h (by omega)
  | k + 1, l, out, h => by
    rw [spl_sp, wordsF]
    have hlen := (List.dropWhile_sublist (p := (· == (32 : UInt8))) (l := l)).length_le
    by_cases h0 : l.dropWhile (· == 32) = []
    · rw [if_pos h0, h0]; simp [splD]
    · rw [if_neg h0]
      obtain ⟨c, t, hct⟩ : ∃ c t, l.dropWhile (· == 32) = c :: t := by
        cases hl : l.dropWhile (· == 32) with
        | nil => exact absurd hl h0
        | cons c t => exact ⟨c, t, rfl⟩
      have hc := dropW_head _ _ _ _ hct
      have hc32 : c ≠ 32 := by simpa using hc
      have h1 : (c != 32) = true := by simpa using hc32
      rw [hct] at hlen ⊢
      rw [splD, if_neg hc32, List.nil_append, spl_word t [c] out (by simp), List.dropWhile_cons, if_pos h1, List.takeWhile_cons, if_pos h1]
      have hl2 := (List.dropWhile_sublist (p := (· != (32 : UInt8))) (l := t)).length_le
      rw [spl_is k _ _ (by simp only [List.length_drop, List.length_cons] at hlen ⊢; omega)]
      simp
end Go.Proofs.YtlaagebdbcmckaaGreatDoor
