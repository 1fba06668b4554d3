/- words.Line, walked; words.Split as a call of a walk. -/
import Derived.Test.YtehfcboiimdkbaaGreatDoorCVreadW
import Derived.Test.YtehfcboiimdkbaaGreatDoorCSplit
import Derived.Test.YtehfcboiimdkbaaGreatDoorBM
namespace Go.Proofs.YtehfcboiimdkbaaGreatDoor
set_option linter.unusedSimpArgs false
set_option linter.unusedVariables false
set_option linter.unusedSimpArgs false
set_option linter.unusedVariables false
set_option maxHeartbeats 8000000
open Go.RowKit
set_option maxRecDepth 100000
structure EnvTV (w : World) : Prop where
  env : Env w
  max : ∃ m, w.cell? ⟨0, 0, none⟩ = some (.int .i64 m)
theorem EnvTV.below {w w' : World} (h : EnvTV w) (hb : Below w.heap.size w w') : EnvTV w' := by
  obtain ⟨m, hm⟩ := h.max
  exact ⟨h.env.below hb, m, (hb.cell (p := ⟨0, 0, none⟩) (lt_of_cell hm)).trans hm⟩
theorem ib_posV (c : UInt8) (l : List UInt8) : (0 ≤ Lib.indexByte l c) ↔ (l.takeWhile (· != c)).length < l.length := by
  induction l with
  | nil => simp [Lib.indexByte]
  | cons b l ih =>
    by_cases hb : b = c
    · subst hb; simp [Lib.indexByte]
    · have hb2 : (b == c) = false := by simpa using hb
      have hb3 : (b != c) = true := by simpa using hb
      rw [List.takeWhile_cons, if_pos hb3, List.length_cons, List.length_cons]
      simp only [Lib.indexByte, hb2]
      have h2 := cut_cases c l
      constructor
      · intro h
        have : 0 ≤ Lib.indexByte l c := by
          rcases h2 with ⟨h1, _⟩ | ⟨k, h1, _⟩
          · rw [h1] at h; simp at h
          · omega
        have := ih.1 this; omega
      · intro h
        have := ih.2 (by omega)
        rcases h2 with ⟨h1, _⟩ | ⟨k, h1, _⟩
        · omega
        · rw [h1]; simp; omega
theorem cut_okV (c : UInt8) (l : List UInt8) : (Lib.cut l [c]).2.2 = decide ((l.takeWhile (· != c)).length < l.length) := by
  unfold Lib.cut
  rw [Lib.index_one]
  by_cases h : 0 ≤ Lib.indexByte l c
  · rw [if_pos h, decide_eq_true ((ib_posV c l).1 h)]
  · rw [if_neg h, decide_eq_false (fun h2 => h ((ib_posV c l).2 h2))]
theorem trim_crV (l : List UInt8) : Lib.trimSuffix l [13] = if l.getLast? = some 13 then l.dropLast else l := by
  have h : Lib.hasSuffix l [13] = (l.getLast? == some 13) := by
    rw [Bool.eq_iff_iff, beq_iff_eq]
    show ([13] : List UInt8).isSuffixOf l = true ↔ _
    rw [List.isSuffixOf_iff_suffix]
    constructor
    · rintro ⟨t, rfl⟩; simp
    · intro h
      obtain ⟨ys, rfl⟩ := List.getLast?_eq_some_iff.1 h
      exact ⟨ys, rfl⟩
  unfold Lib.trimSuffix
  rw [h]
  by_cases hl : l.getLast? = some 13
  · rw [if_pos (by rw [hl]; rfl), if_pos hl, List.dropLast_eq_take]; rfl
  · rw [if_neg (by simpa using hl), if_neg hl]
def rowCutV : List SV → Option (Prop × SV)
  | [.c (.s l), .c (.s [10])] => some (l.length < 4294967281, .t [.c (.s (l.takeWhile (· != 10))), .c (.s ((l.dropWhile (· != 10)).drop 1)), .c (.b (decide ((l.takeWhile (· != 10)).length < l.length)))])
  | _ => none
def rowTrimSV : List SV → Option (Prop × SV)
  | [.c (.s l), .c (.s p)] => some (l.length ≤ 9223372036854775807, .c (.s (Lib.trimSuffix l p)))
  | _ => none
def tCLV : Ctr := fun f _ xs => match f with
  | 23 => rowCutV xs
  | 28 => rowTrimSV xs
  | _ => none
theorem tCL_okV {C : Cx} (hP : C.P = Tryz.prog) (hE : ∀ w, Upd C.S C.w0 w → EnvTV w) : CtrOk C tCLV := by
  intro f en xs p v h hp ρ w hup hHp hHo hinj hwf
  unfold tCLV at h
  split at h
  · rw [hP]
    refine ⟨fun args w => Tryz.call23 args w, ?_⟩
    unfold rowCutV at h
    split at h <;> simp only [Option.some.injEq, Prod.mk.injEq, reduceCtorEq] at h
    rename_i l
    obtain ⟨rfl, rfl⟩ := h
    refine ⟨by intro x hx; simp at hx; rcases hx with rfl | rfl | rfl <;> trivial, ?_⟩
    obtain ⟨m, hm⟩ := (hE w hup).max
    have := Tryz.strings_Cut ⟨l.toArray⟩ ⟨#[10]⟩ m w (by simpa [ByteArray.size] using hp) hm
    have e1 : (⟨l.toArray⟩ : ByteArray).data.toList = l := rfl
    have e2 : (⟨#[10]⟩ : ByteArray).data.toList = [10] := rfl
    rw [e1, e2, (cut_one 10 l).1, (cut_one 10 l).2, cut_okV] at this
    refine this.mono ?_
    rintro e w' ⟨rfl, q, rfl⟩
    exact ⟨rfl, rfl, rfl, rfl, Nat.le_refl _, fun _ _ => rfl⟩
  · rw [hP]
    refine ⟨fun args w => Tryz.call28 args w, ?_⟩
    unfold rowTrimSV at h
    split at h <;> simp only [Option.some.injEq, Prod.mk.injEq, reduceCtorEq] at h
    obtain ⟨rfl, rfl⟩ := h
    refine ⟨trivial, (Tryz.strings_TrimSuffix _ _ w (by simpa [ByteArray.size] using hp)).mono ?_⟩
    rintro e w' ⟨rfl, rfl⟩
    exact ⟨rfl, Below.refl _ _⟩
  · cases h
theorem line_wV (l : List UInt8) (hl : l.length < 4294967281) (w : World) (hE : EnvTV w) : Calls Tryz.prog 22 #[.string ⟨l.toArray⟩] w fun e w' => e = .returned (.tuple #[.string ⟨(lineV l).1.toArray⟩, .int .i64 ((lineV l).2 : Nat)]) ∧ Below w.heap.size w w' := by
  refine calls_of_Run Tryz.func22 rfl kp22 (S := Non) (ρ := fun _ => reOfV 0) (en := []) [.c (.s l)] Tryz.ntmps22 (At.nil _ _ _) (by simp [SV.wf, SC.wf]) (by simp) ?_
  intro C hC hP hk
  have hctr := tCL_okV hP (fun w' hu => by rw [hC] at hu; exact hE.below hu.to_below)
  have htl : (l.takeWhile (· != 10)).length ≤ l.length := (List.takeWhile_sublist _).length_le
  have w1 : IntKind.i64.wrap (((l.takeWhile (· != 10)).length : Int) + 1) = (((l.takeWhile (· != 10)).length + 1 : Nat) : Int) := by rw [IntWalk.i64_in _ (by omega)]; rfl
  have fin : ∀ (x : List UInt8) (n : Int), x = (lineV l).1 → n = ((lineV l).2 : Nat) → Fin C res22 (.t [.c (.s x), .c (.i .i64 n)]) [] := fun x n h1 h2 => Fin_ro (v := .t [.c (.s (lineV l).1), .c (.i .i64 ((lineV l).2 : Nat))]) hC hres22 (by rw [h1, h2]) (by simp [SV.wf, TE.wf, SC.wf])
  by_cases h : (l.takeWhile (· != 10)).length < l.length
  · have c1 : decide ((l.takeWhile (· != 10)).length < l.length) = true := decide_eq_true h
    (refine VT_ok hctr (rs := res22) true 200 _ _ _ ?_; simp (maxSteps := 1000000) only [VT, jf, jg, jZ, ja, jd, je, VC, qA, qB, qC, qD, qE, qF, qG, qH, qI, qJ, qK, qL, qM, qN, qO, qP, qQ, qR, qS, qT, qU, qV, qW, qX, qY, qZ, qe, qf, qg, qh, qj, qk, ql, qm, qn, qo, qp, qq, q0t, qu, qv, ev, qw, qy, qz, zA, zB, zC, zD, zE, zF, zG, zH, zI, zJ, TE.sv, zK, zL, zM, ↓reduceIte, reduceCtorEq, Value.oneCell', Nat.reduceEqDiff, Nat.reduceAdd, Nat.reduceLT, Nat.reduceBEq, Nat.reduceSub, Nat.reduceLeDiff, zP, zQ, zR, zS, zT, zU, zV, zW, zX, zY, zZ, za, zb, zc, zd, ze, zf, zg, zh, zi, zj, zk, zl, zm, zn, zo, zp, zq, zr, zt, zu, zw, zx, zy, zz, cE, jA, jB, hap, killE, deadOf, rwE, cD, cO, jC, jD, jE, jF, jG, jH, jI, jJ, jK, jL, jM, jN, jO, jP, jQ, jR, jS, jT, jU, jV, jW, jX, jY, hP, hk, res22, kp22, tCLV, rowCutV, rowTrimSV, c1, w1])
    refine ⟨hl, by omega, fin _ _ ?_ ?_⟩
    · unfold lineV; rw [if_pos h, trim_crV]
    · unfold lineV; rw [if_pos h]
  · have c1 : decide ((l.takeWhile (· != 10)).length < l.length) = false := decide_eq_false h
    (refine VT_ok hctr (rs := res22) true 200 _ _ _ ?_; simp (maxSteps := 1000000) only [VT, jf, jg, jZ, ja, jd, je, VC, qA, qB, qC, qD, qE, qF, qG, qH, qI, qJ, qK, qL, qM, qN, qO, qP, qQ, qR, qS, qT, qU, qV, qW, qX, qY, qZ, qe, qf, qg, qh, qj, qk, ql, qm, qn, qo, qp, qq, q0t, qu, qv, ev, qw, qy, qz, zA, zB, zC, zD, zE, zF, zG, zH, zI, zJ, TE.sv, zK, zL, zM, ↓reduceIte, reduceCtorEq, Value.oneCell', Nat.reduceEqDiff, Nat.reduceAdd, Nat.reduceLT, Nat.reduceBEq, Nat.reduceSub, Nat.reduceLeDiff, zP, zQ, zR, zS, zT, zU, zV, zW, zX, zY, zZ, za, zb, zc, zd, ze, zf, zg, zh, zi, zj, zk, zl, zm, zn, zo, zp, zq, zr, zt, zu, zw, zx, zy, zz, cE, jA, jB, hap, killE, deadOf, rwE, cD, cO, jC, jD, jE, jF, jG, jH, jI, jJ, jK, jL, jM, jN, jO, jP, jQ, jR, jS, jT, jU, jV, jW, jX, jY, hP, hk, res22, kp22, tCLV, rowCutV, rowTrimSV, c1, w1])
    refine ⟨hl, fin _ _ ?_ ?_⟩
    · unfold lineV; rw [if_neg h]
    · unfold lineV; rw [if_neg h]; rfl
end Go.Proofs.YtehfcboiimdkbaaGreatDoor
