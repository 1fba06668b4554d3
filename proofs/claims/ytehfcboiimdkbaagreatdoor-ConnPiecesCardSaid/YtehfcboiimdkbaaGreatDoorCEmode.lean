/- meta.mode, walked; a command in memory. Printed by gen_eset.py. -/
import Derived.Test.YtehfcboiimdkbaaGreatDoorBT
import Derived.Test.YtehfcboiimdkbaaGreatDoorCShelfM
namespace Go.Proofs.YtehfcboiimdkbaaGreatDoor
set_option linter.unusedSimpArgs false
set_option linter.unusedVariables false
set_option linter.unusedSimpArgs false
set_option linter.unusedVariables false
set_option maxHeartbeats 8000000
open Go.RowKit
set_option maxRecDepth 100000
def enC (c : Cd) (mu : Bool) : EN := ⟨(54, 0, whole), ecS c, mu⟩
theorem ec_at {w : World} {g : Nat} {c : Cd} (h : Blk w g 54 (ecA c)) (mu : Bool) (S : Nat → Prop) (hS : mu = true → S g) : At S (fun _ => reOf g) [enC c mu] w := by
  have h0 : ∀ i (e : EN), zD [enC c mu] i = some e → i = 0 := by
    intro i e hc
    match i with
    | 0 => rfl
    | i + 1 => simp [zD] at hc
  refine ⟨?_, ?_, ?_, ?_⟩
  · intro i ty cells mu' hc he
    have : i = 0 := by have : i < 1 := hc; omega
    subst this
    simp only [zD, enC, Option.some.injEq, EN.mk.injEq] at he
    obtain ⟨rfl, rfl, rfl⟩ := he
    refine ⟨fun _ => h, ?_, fun hd => absurd hd (by decide), fun hn => absurd rfl hn⟩
    intro x hx
    simp only [ecS, List.mem_cons, List.not_mem_nil, or_false] at hx
    rcases hx with rfl | rfl | rfl | rfl | rfl | rfl | rfl | rfl | rfl | rfl | rfl | rfl | rfl | rfl | rfl | rfl <;> trivial
  · intro i ty cells mu' hc he
    have : i = 0 := by have : i < 1 := hc; omega
    subst this
    simp only [zD, enC, Option.some.injEq, EN.mk.injEq] at he
    obtain ⟨rfl, rfl, rfl⟩ := he
    exact ⟨rfl, rfl, rfl⟩
  · intro i d hc hd _ _ _
    have h1 : i < 1 := hc
    have h2 : d < 1 := hd
    omega
  · intro i ty cells hc he
    have : i = 0 := by have : i < 1 := hc; omega
    subst this
    simp only [zD, enC, Option.some.injEq, EN.mk.injEq] at he
    exact hS he.2.2
theorem ec_blk {C : Cx} {ρ : Nat → RE} {en : List EN} {w' : World} {g : Nat} {c : Cd} {mu : Bool} (hw : Hw C ρ (· < en.length) en w') (hen : zD en 0 = some (enC c mu)) (hn0 : 0 < C.n0) (hρ : C.ρ0 0 = reOf g) : Blk w' g 54 (ecA c) := by
  have e := hw.ini 0 hn0
  rw [hρ] at e
  have hl : 0 < en.length := by rw [nthS_eq] at hen; exact (List.getElem?_eq_some_iff.1 hen).1
  have := (hw.hp 0 _ _ _ hl hen).heap ⟨(by show (54 : Nat) ≠ DEAD; decide), by rw [e]; rfl⟩
  rw [e] at this
  exact this
def rowIdx : List SV → Option (Prop × SV)
  | [.c (.s l), .c (.s [x])] => some (True, .c (.i .i64 (Lib.indexByte l x)))
  | _ => none
def rowCon : List SV → Option (Prop × SV)
  | [.c (.s l), .c (.s [x])] => some (True, .c (.b (decide (0 ≤ Lib.indexByte l x))))
  | _ => none
def rowMSecs : List SV → Option (Prop × SV)
  | [.c (.s l)] => some (l.length ≤ 9223372036854775807, .t [.c (.i .i64 ((signedV l).getD 0)), .c (.b (secF l).2)])
  | _ => none
def eC0 : Ctr := fun f en xs => match f with
  | 89 => rowIdx xs
  | 66 => rowCon xs
  | 91 => rowMSecs xs
  | _ => tC0 f en xs
theorem eC0_ok {C : Cx} (hP : C.P = Tryz.prog) (hE : EnvC C) : CtrOk C eC0 := by
  intro f en xs p v h hp ρ w hup hHp hHo hinj hwf
  unfold eC0 at h
  split at h
  · rw [hP]
    refine ⟨fun args w => Tryz.call89 args w, ?_⟩
    unfold rowIdx at h
    split at h <;> simp only [Option.some.injEq, Prod.mk.injEq, reduceCtorEq] at h
    rename_i l x
    obtain ⟨rfl, rfl⟩ := h
    refine ⟨trivial, (Tryz.strings_Index_one ⟨l.toArray⟩ x w).mono ?_⟩
    rintro e w' ⟨rfl, rfl⟩
    exact ⟨rfl, Below.refl _ _⟩
  · rw [hP]
    refine ⟨fun args w => Tryz.call66 args w, ?_⟩
    unfold rowCon at h
    split at h <;> simp only [Option.some.injEq, Prod.mk.injEq, reduceCtorEq] at h
    rename_i l x
    obtain ⟨rfl, rfl⟩ := h
    refine ⟨trivial, (Tryz.strings_Contains_one ⟨l.toArray⟩ x w).mono ?_⟩
    rintro e w' ⟨rfl, rfl⟩
    exact ⟨rfl, Below.refl _ _⟩
  · rw [hP]
    refine ⟨fun args w => Tryz.call91 args w, ?_⟩
    unfold rowMSecs at h
    split at h <;> simp only [Option.some.injEq, Prod.mk.injEq, reduceCtorEq] at h
    rename_i l
    obtain ⟨rfl, rfl⟩ := h
    refine ⟨by intro x hx; simp at hx; rcases hx with rfl | rfl <;> trivial, ?_⟩
    exact msecs_w l hp w (hE w hup)
  · exact tC0_ok hP hE f en xs p v h hp ρ w hup hHp hHo hinj hwf
theorem ib_lt (l : List UInt8) (c : UInt8) : Lib.indexByte l c < (l.length : Int) := by
  by_cases h : 0 ≤ Lib.indexByte l c
  · obtain ⟨n, hn⟩ := Int.eq_ofNat_of_zero_le h
    have := (List.getElem?_eq_some_iff.1 (Lib.indexByte_some hn).1).1
    omega
  · omega
theorem td2 (i : Int) (h0 : -1 ≤ i) (h1 : i < 10) : -1 ≤ i.tdiv 2 ∧ i.tdiv 2 < 10 := by
  by_cases h : 0 ≤ i
  · rw [Int.tdiv_eq_ediv_of_nonneg h]; omega
  · have : i = -1 := by omega
    subst this; decide
def SetP (g : Nat) (w : World) (r : Cd × Bool) (e : Ending) (w' : World) : Prop := e = .returned (.bool r.2) ∧ Upd (One g) w w' ∧ Blk w' g 54 (ecA r.1)
theorem set_fin {C : Cx} {fn : Func} {w : World} {g : Nat} {r : Cd × Bool} {rs : List ResultVar} (hC : C = zL Tryz.prog fn (SetP g w r) (One g) w (fun _ => reOf g) 1 C.kp) (hrs : fn.results.toList = rs) {c : Cd} {b : Bool} (h : (c, b) = r) : Fin C rs (.c (.b b)) [enC c true] := by
  subst h
  refine Fin_cx hC hrs fun ρ w' hw _ _ => ?_
  have hb := ec_blk hw rfl (by rw [hC]; exact Nat.zero_lt_one) (by rw [hC]; rfl)
  have hup := hw.up
  rw [hC] at hup
  exact ⟨rfl, hup, hb⟩
theorem mode_w {w : World} {g : Nat} {c : Cd} (h : Blk w g 54 (ecA c)) (s : List UInt8) (hE : Env w) (hEg : ∀ w', Upd (One g) w w' → Env w') :
    Calls Tryz.prog 90 #[.pointer (some ⟨g, 0, none⟩), .string ⟨s.toArray⟩] w (SetP g w (modeM c s)) := by
  refine calls_of_Run Tryz.func90 rfl kp90 (S := One g) (ρ := fun _ => reOf g) [.c (.p 0 0), .c (.s s)] Tryz.ntmps90 (ec_at h true (One g) (fun _ => rfl)) (by simp [SV.wf, SC.wf]) (by simp) ?_
  intro C hC hP hk
  have hctr := eC0_ok hP (fun w' hu => by rw [hC] at hu; exact hEg w' hu)
  have fin : ∀ c' b, (c', b) = modeM c s → Fin C res90 (.c (.b b)) [enC c' true] := fun c' b e => set_fin (by rw [hC]; rfl) hres90 e
  by_cases h1 : ∃ x, s = [x]
  · obtain ⟨x, rfl⟩ := h1
    have g1 := Lib.indexByte_ge [73, 105, 43, 68, 100, 45] x
    have g2 := Lib.indexByte_ge [83, 115, 69, 101, 82, 114, 65, 97, 80, 112] x
    have cl : (((1 : Nat) : Int) != 1) = false := rfl
    by_cases h3 : c.op = 3
    · have c3 : (c.op == 3) = true := by rw [h3]; rfl
      (refine VT_ok hctr (rs := res90) true 200 _ _ _ ?_; simp (maxSteps := 1000000) only [VT, jf, jg, jZ, ja, jd, je, VC, qA, qB, qC, qD, qE, qF, qG, qH, qI, qJ, qK, qL, qM, qN, qO, qP, qQ, qR, qS, qT, qU, qV, qW, qX, qY, qZ, qe, qf, qg, qh, qj, qk, ql, qm, qn, qo, qp, qq, q0t, qu, qv, ev, qw, qy, qz, zA, zB, zC, zD, zE, zF, zG, zH, zI, zJ, TE.sv, zK, zL, zM, ↓reduceIte, reduceCtorEq, Value.oneCell', Nat.reduceEqDiff, Nat.reduceAdd, Nat.reduceLT, Nat.reduceBEq, Nat.reduceSub, Nat.reduceLeDiff, zP, zQ, zR, zS, zT, zU, zV, zW, zX, zY, zZ, za, zb, zc, zd, ze, zf, zg, zh, zi, zj, zk, zl, zm, zn, zo, zp, zq, zr, zt, zu, zw, zx, zy, zz, cE, jA, jB, hap, killE, deadOf, rwE, cD, cO, jC, jD, jE, jF, jG, jH, jI, jJ, jK, jL, jM, jN, jO, jP, jQ, jR, jS, jT, jU, jV, jW, jX, jY, hP, hk, res90, kp90, eC0, rowIdx, enC, ecS, c3, cl, lb1, lb2, lb3, lb4, u8b, UInt8.reduceToNat])
      exact fin { c with down := decide (3 ≤ Lib.indexByte [73, 105, 43, 68, 100, 45] x) } _ (by simp only [modeM, if_pos h3])
    · have c3 : (c.op == 3) = false := by simpa using h3
      (refine VT_ok hctr (rs := res90) true 200 _ _ _ ?_; simp (maxSteps := 1000000) only [VT, jf, jg, jZ, ja, jd, je, VC, qA, qB, qC, qD, qE, qF, qG, qH, qI, qJ, qK, qL, qM, qN, qO, qP, qQ, qR, qS, qT, qU, qV, qW, qX, qY, qZ, qe, qf, qg, qh, qj, qk, ql, qm, qn, qo, qp, qq, q0t, qu, qv, ev, qw, qy, qz, zA, zB, zC, zD, zE, zF, zG, zH, zI, zJ, TE.sv, zK, zL, zM, ↓reduceIte, reduceCtorEq, Value.oneCell', Nat.reduceEqDiff, Nat.reduceAdd, Nat.reduceLT, Nat.reduceBEq, Nat.reduceSub, Nat.reduceLeDiff, zP, zQ, zR, zS, zT, zU, zV, zW, zX, zY, zZ, za, zb, zc, zd, ze, zf, zg, zh, zi, zj, zk, zl, zm, zn, zo, zp, zq, zr, zt, zu, zw, zx, zy, zz, cE, jA, jB, hap, killE, deadOf, rwE, cD, cO, jC, jD, jE, jF, jG, jH, jI, jJ, jK, jL, jM, jN, jO, jP, jQ, jR, jS, jT, jU, jV, jW, jX, jY, hP, hk, res90, kp90, eC0, rowIdx, enC, ecS, c3, cl, lb1, lb2, lb3, lb4, u8b, UInt8.reduceToNat])
      have g3 := td2 _ g2 (by have := ib_lt [83, 115, 69, 101, 82, 114, 65, 97, 80, 112] x; simpa using this)
      have g5 := IntWalk.i64_in ((Lib.indexByte [83, 115, 69, 101, 82, 114, 65, 97, 80, 112] x).tdiv 2) (by omega)
      refine ⟨by decide, ?_⟩
      rw [g5]
      exact fin { c with mode := if 0 < (Lib.indexByte [83, 115, 69, 101, 82, 114, 65, 97, 80, 112] x).tdiv 2 then (Lib.indexByte [83, 115, 69, 101, 82, 114, 65, 97, 80, 112] x).tdiv 2 else 0 } _ (by simp only [modeM, if_neg h3])
  · have c0 : ((s.length : Int) != 1) = true := by
      refine bne_iff_ne.2 fun e => h1 ?_
      match s, e with
      | [x], _ => exact ⟨x, rfl⟩
      | [], e => simp at e
      | x :: y :: t, e => simp at e; omega
    (refine VT_ok hctr (rs := res90) true 200 _ _ _ ?_; simp (maxSteps := 1000000) only [VT, jf, jg, jZ, ja, jd, je, VC, qA, qB, qC, qD, qE, qF, qG, qH, qI, qJ, qK, qL, qM, qN, qO, qP, qQ, qR, qS, qT, qU, qV, qW, qX, qY, qZ, qe, qf, qg, qh, qj, qk, ql, qm, qn, qo, qp, qq, q0t, qu, qv, ev, qw, qy, qz, zA, zB, zC, zD, zE, zF, zG, zH, zI, zJ, TE.sv, zK, zL, zM, ↓reduceIte, reduceCtorEq, Value.oneCell', Nat.reduceEqDiff, Nat.reduceAdd, Nat.reduceLT, Nat.reduceBEq, Nat.reduceSub, Nat.reduceLeDiff, zP, zQ, zR, zS, zT, zU, zV, zW, zX, zY, zZ, za, zb, zc, zd, ze, zf, zg, zh, zi, zj, zk, zl, zm, zn, zo, zp, zq, zr, zt, zu, zw, zx, zy, zz, cE, jA, jB, hap, killE, deadOf, rwE, cD, cO, jC, jD, jE, jF, jG, jH, jI, jJ, jK, jL, jM, jN, jO, jP, jQ, jR, jS, jT, jU, jV, jW, jX, jY, hP, hk, res90, kp90, eC0, rowIdx, enC, ecS, c0, lb1, lb2, lb3, lb4, u8b, UInt8.reduceToNat])
    refine fin c false ?_
    match s, h1 with
    | [], _ => rfl
    | [x], h1 => exact absurd ⟨x, rfl⟩ h1
    | x :: y :: t, _ => rfl
end Go.Proofs.YtehfcboiimdkbaaGreatDoor
