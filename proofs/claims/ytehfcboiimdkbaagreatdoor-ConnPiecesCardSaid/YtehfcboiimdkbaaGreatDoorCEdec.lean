/- b64.Decode, walked. -/
import Derived.Test.YtehfcboiimdkbaaGreatDoorBT
import Derived.Test.YtehfcboiimdkbaaGreatDoorBM
import Derived.Test.YtehfcboiimdkbaaGreatDoorBC
import Derived.Test.YtehfcboiimdkbaaGreatDoorCShelfM
import Derived.Test.YtehfcboiimdkbaaGreatDoorCShelfK
namespace Go.Proofs.YtehfcboiimdkbaaGreatDoor
set_option linter.unusedSimpArgs false
set_option linter.unusedVariables false
set_option linter.unusedSimpArgs false
set_option linter.unusedVariables false
set_option maxHeartbeats 8000000
open Go.RowKit
set_option maxRecDepth 100000
def rowTrimR : List SV → Option (Prop × SV)
  | [.c (.s l), .c (.s [61])] => some (l.length ≤ 9223372036854775807, .c (.s (noFill l)))
  | _ => none
def rowIB : List SV → Option (Prop × SV)
  | [.c (.s l), .c (.i .u8 n)] => some (True, .c (.i .i64 (Lib.indexByte l n.toNat.toUInt8)))
  | _ => none
def dC0 : Ctr := fun f _ xs => match f with
  | 68 => rowTrimR xs
  | 25 => rowIB xs
  | _ => none
theorem trimR_is (l : List UInt8) : Lib.trimRightB l 61 = noFill l := by
  unfold noFill
  first | rfl | (unfold Lib.trimRightB; rfl)
theorem dC0_ok {C : Cx} (hP : C.P = Tryz.prog) : CtrOk C dC0 := by
  intro f en xs p v h hp ρ w hup hHp hHo hinj hwf
  unfold dC0 at h
  split at h
  · rw [hP]
    refine ⟨fun args w => Tryz.call68 args w, ?_⟩
    unfold rowTrimR at h
    split at h <;> simp only [Option.some.injEq, Prod.mk.injEq, reduceCtorEq] at h
    rename_i l
    obtain ⟨rfl, rfl⟩ := h
    refine ⟨trivial, (Tryz.strings_TrimRight_one ⟨l.toArray⟩ 61 (by decide) w (by simpa [ByteArray.size] using hp)).mono ?_⟩
    rintro e w' ⟨rfl, rfl⟩
    exact ⟨by rw [← trimR_is]; rfl, Below.refl _ _⟩
  · rw [hP]
    refine ⟨fun args w => Tryz.call25 args w, ?_⟩
    unfold rowIB at h
    split at h <;> simp only [Option.some.injEq, Prod.mk.injEq, reduceCtorEq] at h
    rename_i l n
    obtain ⟨rfl, rfl⟩ := h
    refine ⟨trivial, (Tryz.strings_IndexByte ⟨l.toArray⟩ n w).mono ?_⟩
    rintro e w' ⟨rfl, rfl⟩
    exact ⟨rfl, Below.refl _ _⟩
  · cases h
def slDec (s body : List UInt8) (i b n : Nat) : List (Nat × SV) := [(26, .c (.i .i64 (i : Int))), (25, .c (.i .i64 (body.length : Int))), (7, .c (.i .i64 (n : Int))), (6, .c (.i .u32 (b : Int))), (5, .c (.p 0 0)), (4, .c (.s body)), (0, .c (.s s))]
def enDec (out : List UInt8) : List EN := [bldE (bX out) (.rw 1 out.length), rwB out]
theorem nf_le (l : List UInt8) : (noFill l).length ≤ l.length := by
  unfold noFill
  rw [List.length_reverse]
  have := (List.dropWhile_sublist (fun x : UInt8 => x == 61) (l := l.reverse)).length_le
  rwa [List.length_reverse] at this
theorem decode_w (s : List UInt8) (hs : s.length ≤ 5000) (w : World) (hE : Env w) : Calls Tryz.prog 50 #[.string ⟨s.toArray⟩] w fun e w' => e = .returned (.tuple #[.string ⟨((decB s).getD []).toArray⟩, .bool (decB s).isSome]) ∧ Below w.heap.size w w' := by
  refine calls_of_Run Tryz.func50 rfl kp50 (S := Non) (ρ := fun _ => reOf 0) (en := []) [.c (.s s)] Tryz.ntmps50 (At.nil _ _ _) (by simp [SV.wf, SC.wf]) (by simp) ?_
  intro C hC hP hk
  have hctr := dC0_ok hP
  have fin : ∀ (x : List UInt8) (b : Bool) en, x = (decB s).getD [] → b = (decB s).isSome → Fin C res50 (.t [.c (.s x), .c (.b b)]) en := fun x b en h1 h2 => by
    subst h1; subst h2
    refine Fin_cx (v := .t [.c (.s ((decB s).getD [])), .c (.b (decB s).isSome)]) hC hres50 fun ρ w' hw _ _ => ?_
    have hup := hw.up
    rw [hC] at hup
    exact ⟨rfl, hup.to_below⟩
  have hnf := nf_le s
  have hn0 : C.n0 = 0 := by rw [hC]; rfl
  have w2 : IntKind.i64.wrap ((s.length : Int) - ((noFill s).length : Int)) = ((s.length - (noFill s).length : Nat) : Int) := by rw [IntWalk.i64_in _ (by omega)]; omega
  have w3 : IntKind.i64.wrap (((s.length : Int)).tmod 4) = ((s.length % 4 : Nat) : Int) := by rw [Int.tmod_eq_emod_of_nonneg (by omega), IntWalk.i64_in _ (by omega)]; omega
  have w4 : ((s.length : Int)).tmod 4 = ((s.length % 4 : Nat) : Int) := by rw [Int.tmod_eq_emod_of_nonneg (by omega)]; omega
  by_cases h1 : s.length % 4 ≠ 0
  · have c1 : (((s.length % 4 : Nat) : Int) != 0) = true := by simp; omega
    (refine VT_ok hctr (rs := res50) true 300 _ _ _ ?_; simp (maxSteps := 1000000) only [VT, jf, jg, jZ, ja, jd, je, VC, qA, qB, qC, qD, qE, qF, qG, qH, qI, qJ, qK, qL, qM, qN, qO, qP, qQ, qR, qS, qT, qU, qV, qW, qX, qY, qZ, qe, qf, qg, qh, qj, qk, ql, qm, qn, qo, qp, qq, q0t, qu, qv, ev, qw, qy, qz, zA, zB, zC, zD, zE, zF, zG, zH, zI, zJ, TE.sv, zK, zL, zM, ↓reduceIte, reduceCtorEq, Value.oneCell', Nat.reduceEqDiff, Nat.reduceAdd, Nat.reduceLT, Nat.reduceBEq, Nat.reduceSub, Nat.reduceLeDiff, zP, zQ, zR, zS, zT, zU, zV, zW, zX, zY, zZ, za, zb, zc, zd, ze, zf, zg, zh, zi, zj, zk, zl, zm, zn, zo, zp, zq, zr, zt, zu, zw, zx, zy, zz, cE, jA, jB, hap, killE, deadOf, rwE, cD, cO, jC, jD, jE, jF, jG, jH, jI, jJ, jK, jL, jM, jN, jO, jP, jQ, jR, jS, jT, jU, jV, jW, jX, jY, hP, hk, res50, kp50, dC0, rowTrimR, rowIB, w3, w4, c1])
    exact ⟨by omega, by decide, fin _ _ _ (by unfold decB; rw [if_pos (.inl h1)]; rfl) (by unfold decB; rw [if_pos (.inl h1)]; rfl)⟩
  have c1 : (((s.length % 4 : Nat) : Int) != 0) = false := by simp; omega
  by_cases h2 : 2 < s.length - (noFill s).length
  · have c2 : decide ((2 : Int) < ((s.length - (noFill s).length : Nat) : Int)) = true := decide_eq_true (by omega)
    (refine VT_ok hctr (rs := res50) true 300 _ _ _ ?_; simp (maxSteps := 1000000) only [VT, jf, jg, jZ, ja, jd, je, VC, qA, qB, qC, qD, qE, qF, qG, qH, qI, qJ, qK, qL, qM, qN, qO, qP, qQ, qR, qS, qT, qU, qV, qW, qX, qY, qZ, qe, qf, qg, qh, qj, qk, ql, qm, qn, qo, qp, qq, q0t, qu, qv, ev, qw, qy, qz, zA, zB, zC, zD, zE, zF, zG, zH, zI, zJ, TE.sv, zK, zL, zM, ↓reduceIte, reduceCtorEq, Value.oneCell', Nat.reduceEqDiff, Nat.reduceAdd, Nat.reduceLT, Nat.reduceBEq, Nat.reduceSub, Nat.reduceLeDiff, zP, zQ, zR, zS, zT, zU, zV, zW, zX, zY, zZ, za, zb, zc, zd, ze, zf, zg, zh, zi, zj, zk, zl, zm, zn, zo, zp, zq, zr, zt, zu, zw, zx, zy, zz, cE, jA, jB, hap, killE, deadOf, rwE, cD, cO, jC, jD, jE, jF, jG, jH, jI, jJ, jK, jL, jM, jN, jO, jP, jQ, jR, jS, jT, jU, jV, jW, jX, jY, hP, hk, res50, kp50, dC0, rowTrimR, rowIB, w3, w4, c1, w2, c2])
    exact ⟨by omega, by decide, fin _ _ _ (by unfold decB; rw [if_pos (.inr h2)]; rfl) (by unfold decB; rw [if_pos (.inr h2)]; rfl)⟩
  have c2 : decide ((2 : Int) < ((s.length - (noFill s).length : Nat) : Int)) = false := decide_eq_false (by omega)
  (refine VT_ok hctr (rs := res50) true 300 _ _ _ ?_; simp (maxSteps := 1000000) only [VT, jf, jg, jZ, ja, jd, je, VC, qA, qB, qC, qD, qE, qF, qG, qH, qI, qJ, qK, qL, qM, qN, qO, qP, qQ, qR, qS, qT, qU, qV, qW, qX, qY, qZ, qe, qf, qg, qh, qj, qk, ql, qm, qn, qo, qp, qq, q0t, qu, qv, ev, qw, qy, qz, zA, zB, zC, zD, zE, zF, zG, zH, zI, zJ, TE.sv, zK, zL, zM, ↓reduceIte, reduceCtorEq, Value.oneCell', Nat.reduceEqDiff, Nat.reduceAdd, Nat.reduceLT, Nat.reduceBEq, Nat.reduceSub, Nat.reduceLeDiff, zP, zQ, zR, zS, zT, zU, zV, zW, zX, zY, zZ, za, zb, zc, zd, ze, zf, zg, zh, zi, zj, zk, zl, zm, zn, zo, zp, zq, zr, zt, zu, zw, zx, zy, zz, cE, jA, jB, hap, killE, deadOf, rwE, cD, cO, jC, jD, jE, jF, jG, jH, jI, jJ, jK, jL, jM, jN, jO, jP, jQ, jR, jS, jT, jU, jV, jW, jX, jY, hP, hk, res50, kp50, dC0, rowTrimR, rowIB, w3, w4, c1, w2, c2])
  refine ⟨by omega, by decide, ?_⟩
  refine Run_nilrowG true (en' := [bldE (.v (.pointer none)) (.rw 1 0)]) (sl' := slDec s (noFill s) 0 0 0) (5, 0, rowP 1 0 0) rfl (fun _ => ⟨rfl, .inr ⟨rfl, rfl, rfl⟩⟩) (fun _ => by show ¬ ((5 : Nat) = DEAD); decide) ?_ ?_ ?_
  · refine ⟨⟨rfl, rfl, fun ρ h => ?_, ?_⟩, trivial⟩
    · have h : (ρ 1).nl = some none := h
      simp only [bldE, dens, List.map_cons, List.map_nil, SC.den, rwOf_off h]
    · intro y hy
      simp only [bldE, List.mem_cons, List.not_mem_nil, or_false] at hy
      rcases hy with rfl | rfl
      · trivial
      · show 1 < _; simp [zG]
  · refine ⟨⟨⟨_, rfl, fun ρ h => rfl⟩, ?_⟩, ⟨⟨_, rfl, fun ρ h => rfl⟩, ?_⟩, ⟨⟨_, rfl, fun ρ h => rfl⟩, ?_⟩, ⟨⟨_, rfl, fun ρ h => rfl⟩, ?_⟩, ⟨⟨_, rfl, fun ρ h => rfl⟩, ?_⟩, ⟨⟨_, rfl, fun ρ h => rfl⟩, ?_⟩, ⟨⟨_, rfl, fun ρ h => rfl⟩, ?_⟩, trivial⟩
    all_goals simp [SV.wf, SC.wf, zG]
  refine Run_loopP (ι := { y : Nat × Nat × Nat × List UInt8 // y.1 ≤ (noFill s).length ∧ y.2.1 < 4294967296 ∧ y.2.2.1 < 8 ∧ y.2.2.2.length ≤ y.1 ∧ decGo ((noFill s).drop y.1) y.2.1 y.2.2.1 y.2.2.2 = decGo (noFill s) 0 0 [] }) (fun y => slDec s (noFill s) y.1.1 y.1.2.1 y.1.2.2.1) (fun y => enDec y.1.2.2.2) (fun y => (noFill s).length - y.1.1) ⟨(0, 0, 0, []), Nat.zero_le _, by decide, by decide, Nat.le_refl _, rfl⟩ (sub_mk ⟨rfl, rfl, rfl, rfl, rfl, rfl, rfl, trivial⟩) rfl ?_
  rintro ⟨⟨j, b, n, out⟩, hj, hb, hn, ho, hall⟩ D dP dS dw dn dr dk ddf dPan dRet hX hJ
  have hP0 := hP; have hk0 := hk; have hctr0 := hctr
  have hP : D.P = Tryz.prog := by rw [dP]; exact hP0
  have hk : D.kp = kp50 := by rw [dk]; exact hk0
  have hctr : CtrOk D dC0 := dC0_ok hP
  simp only at hj hb hn ho hall
  show Run D _ _ (slDec s (noFill s) j b n) (enDec out)
  by_cases hjn : j < (noFill s).length
  · have q1 : decide ((j : Int) < ((noFill s).length : Int)) = true := decide_eq_true (by omega)
    have p0 : (0 : Int) ≤ (j : Int) := by omega
    have p1 : (j : Int) < ((noFill s).length : Int) := by omega
    have dFin : ∀ (x : List UInt8) (b : Bool) en, x = (decB s).getD [] → b = (decB s).isSome → Fin D res50 (.t [.c (.s x), .c (.b b)]) en := fun x b en h1 h2 ρ a w' hw hn hwf hd hr => dRet _ _ (fin x b en h1 h2 ρ a w' (hw.toC dS.symm dw.symm dr.symm dn.symm) (by rw [← dn]; exact hn) hwf (hd.trans ddf) (fun fn h => by rw [← dP]; exact hr fn h))
    obtain ⟨x, hx⟩ : ∃ x, (noFill s)[j]? = some x := ⟨_, List.getElem?_eq_getElem hjn⟩
    have hgd : (noFill s).getD j 0 = x := by rw [List.getD_eq_getElem?_getD, hx]; rfl
    have hdr : (noFill s).drop j = x :: (noFill s).drop (j + 1) := by
      rw [List.drop_eq_getElem_cons hjn]; congr 1
      exact (List.getElem?_eq_some_iff.1 hx).2
    have e8 : x.toNat.toUInt8 = x := by simp
    rw [hdr] at hall
    have hbx := bX_or out
    obtain ⟨bx, hbx0⟩ : ∃ bx, bX out = bx := ⟨_, rfl⟩
    rw [hbx0] at hbx
    rcases idx_back x with hi | ⟨k, hk64, rfl⟩
    · have i1 : decide (Lib.indexByte [65, 66, 67, 68, 69, 70, 71, 72, 73, 74, 75, 76, 77, 78, 79, 80, 81, 82, 83, 84, 85, 86, 87, 88, 89, 90, 97, 98, 99, 100, 101, 102, 103, 104, 105, 106, 107, 108, 109, 110, 111, 112, 113, 114, 115, 116, 117, 118, 119, 120, 121, 122, 48, 49, 50, 51, 52, 53, 54, 55, 56, 57, 43, 47] x < 0) = true := decide_eq_true hi
      have hnone : decGo (noFill s) 0 0 [] = none := by rw [← hall]; simp [decGo, decStep, hi]
      have hdn : decB s = none := by unfold decB; simp only [hnone]; split <;> rfl
      (refine VT_ok hctr (rs := res50) true 300 _ _ _ ?_; simp (maxSteps := 1000000) only [VT, jf, jg, jZ, ja, jd, je, VC, qA, qB, qC, qD, qE, qF, qG, qH, qI, qJ, qK, qL, qM, qN, qO, qP, qQ, qR, qS, qT, qU, qV, qW, qX, qY, qZ, qe, qf, qg, qh, qj, qk, ql, qm, qn, qo, qp, qq, q0t, qu, qv, ev, qw, qy, qz, zA, zB, zC, zD, zE, zF, zG, zH, zI, zJ, TE.sv, zK, zL, zM, ↓reduceIte, reduceCtorEq, Value.oneCell', Nat.reduceEqDiff, Nat.reduceAdd, Nat.reduceLT, Nat.reduceBEq, Nat.reduceSub, Nat.reduceLeDiff, zP, zQ, zR, zS, zT, zU, zV, zW, zX, zY, zZ, za, zb, zc, zd, ze, zf, zg, zh, zi, zj, zk, zl, zm, zn, zo, zp, zq, zr, zt, zu, zw, zx, zy, zz, cE, jA, jB, hap, killE, deadOf, rwE, cD, cO, jC, jD, jE, jF, jG, jH, jI, jJ, jK, jL, jM, jN, jO, jP, jQ, jR, jS, jT, jU, jV, jW, jX, jY, hP, hk, res50, kp50, dC0, rowTrimR, rowIB, slDec, enDec, bldE, rwB, rwE, hbx0, q1, p0, p1, Int.toNat_natCast, hgd, e8, i1])
      exact dFin [] false _ (by rw [hdn]; rfl) (by rw [hdn]; rfl)
    · have i0 : Lib.indexByte [65, 66, 67, 68, 69, 70, 71, 72, 73, 74, 75, 76, 77, 78, 79, 80, 81, 82, 83, 84, 85, 86, 87, 88, 89, 90, 97, 98, 99, 100, 101, 102, 103, 104, 105, 106, 107, 108, 109, 110, 111, 112, 113, 114, 115, 116, 117, 118, 119, 120, 121, 122, 48, 49, 50, 51, 52, 53, 54, 55, 56, 57, 43, 47] (letB k) = (k : Int) := idx_let k hk64
      have i1 : decide ((k : Int) < 0) = false := decide_eq_false (by omega)
      obtain ⟨B, hB⟩ : ∃ B, (b * 64 % 4294967296) ||| k = B := ⟨_, rfl⟩
      have hBl : B < 4294967296 := by rw [← hB, or6 _ _ hk64]; omega
      have f1 : orZ .u32 (shlZ .u32 (b : Int) 6) (IntKind.u32.wrap (k : Int)) = (B : Int) := by
        rw [show (6 : Int) = ((6 : Nat) : Int) from rfl, shlN _ _ (by decide), u32i (by omega), orN (Nat.mod_lt _ (by decide)) (by omega), ← hB]
      have f2 : IntKind.i64.wrap ((n : Int) + 6) = ((n + 6 : Nat) : Int) := by rw [IntWalk.i64_in _ (by omega)]; omega
      have p3 : IntKind.i64.wrap ((j : Int) + 1) = ((j + 1 : Nat) : Int) := by rw [IntWalk.i64_in _ (by omega)]; rfl
      by_cases hn2 : 2 ≤ n
      · have c8 : decide ((8 : Int) ≤ ((n + 6 : Nat) : Int)) = true := decide_eq_true (by omega)
        have f3 : IntKind.i64.wrap (((n + 6 : Nat) : Int) - 8) = ((n - 2 : Nat) : Int) := by rw [IntWalk.i64_in _ (by omega)]; omega
        obtain ⟨x, hx'⟩ : ∃ x, UInt8.ofNat (B / 2 ^ (n - 2)) = x := ⟨_, rfl⟩
        have f4 : IntKind.u8.wrap (shrZ .u32 (B : Int) ((n - 2 : Nat) : Int)) = (x.toNat : Int) := by
          rw [shrN _ _ (by omega), u8w, ← hx', UInt8.toNat_ofNat']
        have f5 : (0 : Int) ≤ ((n - 2 : Nat) : Int) := by omega
        simp only [decGo, decStep, idx_let k hk64, show ¬ ((k : Int) < 0) by omega, if_false, Int.toNat_natCast, hB, show (8 ≤ n + 6) = True by simp; omega, if_true, hx'] at hall
        (refine VT_ok hctr (rs := res50) true 300 _ _ _ ?_; simp (maxSteps := 1000000) only [VT, jf, jg, jZ, ja, jd, je, VC, qA, qB, qC, qD, qE, qF, qG, qH, qI, qJ, qK, qL, qM, qN, qO, qP, qQ, qR, qS, qT, qU, qV, qW, qX, qY, qZ, qe, qf, qg, qh, qj, qk, ql, qm, qn, qo, qp, qq, q0t, qu, qv, ev, qw, qy, qz, zA, zB, zC, zD, zE, zF, zG, zH, zI, zJ, TE.sv, zK, zL, zM, ↓reduceIte, reduceCtorEq, Value.oneCell', Nat.reduceEqDiff, Nat.reduceAdd, Nat.reduceLT, Nat.reduceBEq, Nat.reduceSub, Nat.reduceLeDiff, zP, zQ, zR, zS, zT, zU, zV, zW, zX, zY, zZ, za, zb, zc, zd, ze, zf, zg, zh, zi, zj, zk, zl, zm, zn, zo, zp, zq, zr, zt, zu, zw, zx, zy, zz, cE, jA, jB, hap, killE, deadOf, rwE, cD, cO, jC, jD, jE, jF, jG, jH, jI, jJ, jK, jL, jM, jN, jO, jP, jQ, jR, jS, jT, jU, jV, jW, jX, jY, hP, hk, res50, kp50, dC0, rowTrimR, rowIB, slDec, enDec, bldE, rwB, rwE, hbx0, q1, p0, p1, Int.toNat_natCast, hgd, e8, i0, i1, f1, f2, f3, f4, f5, c8])
        refine ⟨by decide, ?_⟩
        refine Run_hcall rfl (.c (.v .nilIface)) [bldE (.p 0 0) (.rw 2 (out ++ [x]).length), deadOf (rwB out), rwB (out ++ [x])] (wb_h (c := 0) (d := 1) (N := 2) (l := out) (x := x) hP hbx rfl rfl (by omega) (by rw [dn, hn0]; exact Nat.zero_le _) (mk_new rfl) rfl rfl rfl (fun q h1 h2 h3 => by match q with | 0 => exact absurd rfl h2 | 1 => exact absurd rfl h3 | 2 => exact absurd rfl h1 | _ + 3 => rfl)) (by simp [zG]) (by simp) ?_
        (refine VT_ok hctr (rs := res50) true 300 _ _ _ ?_; simp (maxSteps := 1000000) only [VT, jf, jg, jZ, ja, jd, je, VC, qA, qB, qC, qD, qE, qF, qG, qH, qI, qJ, qK, qL, qM, qN, qO, qP, qQ, qR, qS, qT, qU, qV, qW, qX, qY, qZ, qe, qf, qg, qh, qj, qk, ql, qm, qn, qo, qp, qq, q0t, qu, qv, ev, qw, qy, qz, zA, zB, zC, zD, zE, zF, zG, zH, zI, zJ, TE.sv, zK, zL, zM, ↓reduceIte, reduceCtorEq, Value.oneCell', Nat.reduceEqDiff, Nat.reduceAdd, Nat.reduceLT, Nat.reduceBEq, Nat.reduceSub, Nat.reduceLeDiff, zP, zQ, zR, zS, zT, zU, zV, zW, zX, zY, zZ, za, zb, zc, zd, ze, zf, zg, zh, zi, zj, zk, zl, zm, zn, zo, zp, zq, zr, zt, zu, zw, zx, zy, zz, cE, jA, jB, hap, killE, deadOf, rwE, cD, cO, jC, jD, jE, jF, jG, jH, jI, jJ, jK, jL, jM, jN, jO, jP, jQ, jR, jS, jT, jU, jV, jW, jX, jY, hP, hk, res50, kp50, dC0, rowTrimR, rowIB, bldE, rwB, rwE, deadOf, p3])
        have hJ' := hJ ⟨(j + 1, B, n - 2, out ++ [x]), by simp only; omega, hBl, by simp only; omega, by simp only [List.length_append, List.length_cons, List.length_nil]; omega, hall⟩ (slDec s (noFill s) (j + 1) B (n - 2)) (by show (noFill s).length - (j + 1) < (noFill s).length - j; omega) (fun d v h => h)
        rw [enDec, show bX (out ++ [x]) = .p 0 0 from if_neg (by simp)] at hJ'
        refine Run_keepN (f := fun c => if c = 1 then 2 else c) (enK := [bldE (.p 0 0) (.rw 1 (out ++ [x]).length), rwB (out ++ [x])]) (slK := slDec s (noFill s) (j + 1) B (n - 2)) ⟨fun q hq => absurd hq (by rw [dn, hn0]; exact Nat.not_lt_zero _), by rw [dn, hn0]; exact Nat.zero_le _⟩ (fun p q hp hq h => ?_) ?_ ?_ hJ'
        · have hp : p < 2 := hp
          have hq : q < 2 := hq
          have h : (if p = 1 then 2 else p) = (if q = 1 then 2 else q) := h
          split at h <;> split at h <;> omega
        · refine ⟨⟨_, rfl, fun ρ => rfl, ?_⟩, ⟨_, rfl, fun ρ => ?_, bytesC_wf _ _⟩, trivial⟩
          · intro y hy
            simp only [bldE, List.mem_cons, List.not_mem_nil, or_false] at hy
            rcases hy with rfl | rfl
            · exact Nat.zero_lt_two
            · exact Nat.one_lt_two
          · show dens _ (bytesC (out ++ [x])) = dens ρ (bytesC (out ++ [x]))
            rw [bytesC_den, bytesC_den]
        · refine ⟨⟨?_, _, rfl, fun ρ => rfl⟩, ⟨?_, _, rfl, fun ρ => rfl⟩, ⟨?_, _, rfl, fun ρ => rfl⟩, ⟨?_, _, rfl, fun ρ => rfl⟩, ⟨?_, _, rfl, fun ρ => rfl⟩, ⟨?_, _, rfl, fun ρ => rfl⟩, ⟨?_, _, rfl, fun ρ => rfl⟩, trivial⟩
          all_goals simp [SV.wf, SC.wf]
      · have c8 : decide ((8 : Int) ≤ ((n + 6 : Nat) : Int)) = false := decide_eq_false (by omega)
        simp only [decGo, decStep, idx_let k hk64, show ¬ ((k : Int) < 0) by omega, if_false, Int.toNat_natCast, hB, show (8 ≤ n + 6) = False by simp; omega] at hall
        (refine VT_ok hctr (rs := res50) true 300 _ _ _ ?_; simp (maxSteps := 1000000) only [VT, jf, jg, jZ, ja, jd, je, VC, qA, qB, qC, qD, qE, qF, qG, qH, qI, qJ, qK, qL, qM, qN, qO, qP, qQ, qR, qS, qT, qU, qV, qW, qX, qY, qZ, qe, qf, qg, qh, qj, qk, ql, qm, qn, qo, qp, qq, q0t, qu, qv, ev, qw, qy, qz, zA, zB, zC, zD, zE, zF, zG, zH, zI, zJ, TE.sv, zK, zL, zM, ↓reduceIte, reduceCtorEq, Value.oneCell', Nat.reduceEqDiff, Nat.reduceAdd, Nat.reduceLT, Nat.reduceBEq, Nat.reduceSub, Nat.reduceLeDiff, zP, zQ, zR, zS, zT, zU, zV, zW, zX, zY, zZ, za, zb, zc, zd, ze, zf, zg, zh, zi, zj, zk, zl, zm, zn, zo, zp, zq, zr, zt, zu, zw, zx, zy, zz, cE, jA, jB, hap, killE, deadOf, rwE, cD, cO, jC, jD, jE, jF, jG, jH, jI, jJ, jK, jL, jM, jN, jO, jP, jQ, jR, jS, jT, jU, jV, jW, jX, jY, hP, hk, res50, kp50, dC0, rowTrimR, rowIB, slDec, enDec, bldE, rwB, rwE, hbx0, q1, p0, p1, Int.toNat_natCast, hgd, e8, i0, i1, f1, f2, p3, c8])
        refine ⟨by decide, ?_⟩
        have hJ' := fun s' (hs : sub (slDec s (noFill s) (j + 1) B (n + 6)) s') => hJ ⟨(j + 1, B, n + 6, out), by simp only; omega, hBl, by simp only; omega, by simp only; omega, hall⟩ s' (by show (noFill s).length - (j + 1) < (noFill s).length - j; omega) hs
        simp only [enDec, hbx0] at hJ'
        exact hJ' _ (sub_mk ⟨rfl, rfl, rfl, rfl, rfl, rfl, rfl, trivial⟩)
  · have hjn' : j = (noFill s).length := by omega
    have q1 : decide ((j : Int) < ((noFill s).length : Int)) = false := decide_eq_false (by omega)
    have hbx := bX_or out
    obtain ⟨bx, hbx0⟩ : ∃ bx, bX out = bx := ⟨_, rfl⟩
    rw [hbx0] at hbx
    rw [List.drop_of_length_le (by omega), decGo] at hall
    have pn : 2 ^ n ≤ 2 ^ 7 := Nat.pow_le_pow_right (by decide) (by omega)
    have pn0 : 0 < 2 ^ n := Nat.pow_pos (by decide)
    have g0 : (0 : Int) ≤ (n : Int) := by omega
    have g1 : IntKind.u32.wrap (shlZ .u32 1 (n : Int) - 1) = ((2 ^ n - 1 : Nat) : Int) := by
      rw [show (1 : Int) = ((1 : Nat) : Int) from rfl, shlN _ _ (by omega), Nat.one_mul, Nat.mod_eq_of_lt (by omega), ← Int.natCast_sub (by omega), u32i (by omega)]
    have g2 : andZ .u32 (b : Int) ((2 ^ n - 1 : Nat) : Int) = ((b % 2 ^ n : Nat) : Int) := by rw [andN hb (by omega), and_mask]
    obtain ⟨m, hm⟩ : ∃ m, b % 2 ^ n = m := ⟨_, rfl⟩
    rw [hm] at g2
    have hdc : decB s = if m = 0 then some out else none := by
      unfold decB
      simp only [← hall, hm]
      rw [if_neg (by omega)]
    (refine VT_ok hctr (rs := res50) true 300 _ _ _ ?_; simp (maxSteps := 1000000) only [VT, jf, jg, jZ, ja, jd, je, VC, qA, qB, qC, qD, qE, qF, qG, qH, qI, qJ, qK, qL, qM, qN, qO, qP, qQ, qR, qS, qT, qU, qV, qW, qX, qY, qZ, qe, qf, qg, qh, qj, qk, ql, qm, qn, qo, qp, qq, q0t, qu, qv, ev, qw, qy, qz, zA, zB, zC, zD, zE, zF, zG, zH, zI, zJ, TE.sv, zK, zL, zM, ↓reduceIte, reduceCtorEq, Value.oneCell', Nat.reduceEqDiff, Nat.reduceAdd, Nat.reduceLT, Nat.reduceBEq, Nat.reduceSub, Nat.reduceLeDiff, zP, zQ, zR, zS, zT, zU, zV, zW, zX, zY, zZ, za, zb, zc, zd, ze, zf, zg, zh, zi, zj, zk, zl, zm, zn, zo, zp, zq, zr, zt, zu, zw, zx, zy, zz, cE, jA, jB, hap, killE, deadOf, rwE, cD, cO, jC, jD, jE, jF, jG, jH, jI, jJ, jK, jL, jM, jN, jO, jP, jQ, jR, jS, jT, jU, jV, jW, jX, jY, hP, hk, res50, kp50, dC0, rowTrimR, rowIB, slDec, enDec, bldE, rwB, rwE, hbx0, q1])
    refine hX rfl rfl ?_
    have hP := hP0; have hk := hk0; have hctr := hctr0
    by_cases hm0 : m = 0
    · have c9 : ((m : Int) != 0) = false := by subst hm0; rfl
      rw [if_pos hm0] at hdc
      (refine VT_ok hctr (rs := res50) true 300 _ _ _ ?_; simp (maxSteps := 1000000) only [VT, jf, jg, jZ, ja, jd, je, VC, qA, qB, qC, qD, qE, qF, qG, qH, qI, qJ, qK, qL, qM, qN, qO, qP, qQ, qR, qS, qT, qU, qV, qW, qX, qY, qZ, qe, qf, qg, qh, qj, qk, ql, qm, qn, qo, qp, qq, q0t, qu, qv, ev, qw, qy, qz, zA, zB, zC, zD, zE, zF, zG, zH, zI, zJ, TE.sv, zK, zL, zM, ↓reduceIte, reduceCtorEq, Value.oneCell', Nat.reduceEqDiff, Nat.reduceAdd, Nat.reduceLT, Nat.reduceBEq, Nat.reduceSub, Nat.reduceLeDiff, zP, zQ, zR, zS, zT, zU, zV, zW, zX, zY, zZ, za, zb, zc, zd, ze, zf, zg, zh, zi, zj, zk, zl, zm, zn, zo, zp, zq, zr, zt, zu, zw, zx, zy, zz, cE, jA, jB, hap, killE, deadOf, rwE, cD, cO, jC, jD, jE, jF, jG, jH, jI, jJ, jK, jL, jM, jN, jO, jP, jQ, jR, jS, jT, jU, jV, jW, jX, jY, hP, hk, res50, kp50, dC0, rowTrimR, rowIB, g0, g1, g2, c9])
      refine Run_bstr (X := bx) (c := 0) (d := 1) (l := out) hP (by rw [hC]; rfl) hn0 hbx rfl rfl rfl rfl (by simp) ?_
      (refine VT_ok hctr (rs := res50) true 300 _ _ _ ?_; simp (maxSteps := 1000000) only [VT, jf, jg, jZ, ja, jd, je, VC, qA, qB, qC, qD, qE, qF, qG, qH, qI, qJ, qK, qL, qM, qN, qO, qP, qQ, qR, qS, qT, qU, qV, qW, qX, qY, qZ, qe, qf, qg, qh, qj, qk, ql, qm, qn, qo, qp, qq, q0t, qu, qv, ev, qw, qy, qz, zA, zB, zC, zD, zE, zF, zG, zH, zI, zJ, TE.sv, zK, zL, zM, ↓reduceIte, reduceCtorEq, Value.oneCell', Nat.reduceEqDiff, Nat.reduceAdd, Nat.reduceLT, Nat.reduceBEq, Nat.reduceSub, Nat.reduceLeDiff, zP, zQ, zR, zS, zT, zU, zV, zW, zX, zY, zZ, za, zb, zc, zd, ze, zf, zg, zh, zi, zj, zk, zl, zm, zn, zo, zp, zq, zr, zt, zu, zw, zx, zy, zz, cE, jA, jB, hap, killE, deadOf, rwE, cD, cO, jC, jD, jE, jF, jG, jH, jI, jJ, jK, jL, jM, jN, jO, jP, jQ, jR, jS, jT, jU, jV, jW, jX, jY, hP, hk, res50, kp50, dC0, rowTrimR, rowIB])
      exact fin out true _ (by rw [hdc]; rfl) (by rw [hdc]; rfl)
    · have c9 : ((m : Int) != 0) = true := by simpa using hm0
      rw [if_neg hm0] at hdc
      (refine VT_ok hctr (rs := res50) true 300 _ _ _ ?_; simp (maxSteps := 1000000) only [VT, jf, jg, jZ, ja, jd, je, VC, qA, qB, qC, qD, qE, qF, qG, qH, qI, qJ, qK, qL, qM, qN, qO, qP, qQ, qR, qS, qT, qU, qV, qW, qX, qY, qZ, qe, qf, qg, qh, qj, qk, ql, qm, qn, qo, qp, qq, q0t, qu, qv, ev, qw, qy, qz, zA, zB, zC, zD, zE, zF, zG, zH, zI, zJ, TE.sv, zK, zL, zM, ↓reduceIte, reduceCtorEq, Value.oneCell', Nat.reduceEqDiff, Nat.reduceAdd, Nat.reduceLT, Nat.reduceBEq, Nat.reduceSub, Nat.reduceLeDiff, zP, zQ, zR, zS, zT, zU, zV, zW, zX, zY, zZ, za, zb, zc, zd, ze, zf, zg, zh, zi, zj, zk, zl, zm, zn, zo, zp, zq, zr, zt, zu, zw, zx, zy, zz, cE, jA, jB, hap, killE, deadOf, rwE, cD, cO, jC, jD, jE, jF, jG, jH, jI, jJ, jK, jL, jM, jN, jO, jP, jQ, jR, jS, jT, jU, jV, jW, jX, jY, hP, hk, res50, kp50, dC0, rowTrimR, rowIB, g0, g1, g2, c9])
      exact fin [] false _ (by rw [hdc]; rfl) (by rw [hdc]; rfl)
end Go.Proofs.YtehfcboiimdkbaaGreatDoor
