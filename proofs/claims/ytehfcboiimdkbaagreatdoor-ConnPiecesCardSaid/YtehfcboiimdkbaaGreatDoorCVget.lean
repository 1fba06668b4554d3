/- get: get, gets, gat, gats. -/
import Derived.Test.YtehfcboiimdkbaaGreatDoorBV
import Derived.Test.YtehfcboiimdkbaaGreatDoorCShelfT
namespace Go.Proofs.YtehfcboiimdkbaaGreatDoor
set_option linter.unusedSimpArgs false
set_option linter.unusedVariables false
set_option linter.unusedSimpArgs false
set_option linter.unusedVariables false
set_option maxHeartbeats 8000000
open Go.RowKit
set_option maxRecDepth 100000
def rowPrefix : List SV → Option (Prop × SV)
  | [.c (.s l), .c (.s p)] => some (True, .c (.b (Lib.hasPrefix l p)))
  | _ => none
def rowSuffix : List SV → Option (Prop × SV)
  | [.c (.s l), .c (.s p)] => some (l.length ≤ 9223372036854775807, .c (.b (Lib.hasSuffix l p)))
  | _ => none
def rowCutSufV : List SV → Option (Prop × SV)
  | [.c (.s l), .c (.s p)] => some (l.length ≤ 9223372036854775807, .t [.c (.s (Lib.trimSuffix l p)), .c (.b (Lib.hasSuffix l p))])
  | _ => none
def tC4 (a : Option Addr) (ws : List (List UInt8)) : Ctr := fun f en xs => match f with
  | 72 => rowPrefix xs
  | 77 => rowSuffix xs
  | 52 => rowCutSufV xs
  | _ => tC2 a ws f en xs
theorem tC4_ok {C : Cx} {a : Option Addr} {ws : List (List UInt8)} {g : Nat} (hP : C.P = Tryz.prog) (hE : EnvCV C) (hW : ∀ w, Upd C.S C.w0 w → RawSV w g a ws) (hl : ∀ x ∈ ws, x.length ≤ 9223372036854775807) : CtrOk C (tC4 a ws) := by
  intro f en xs p v h hp ρ w hup hHp hHo hinj hwf
  unfold tC4 at h
  split at h
  · rw [hP]
    refine ⟨fun args w => Tryz.call72 args w, ?_⟩
    unfold rowPrefix at h
    split at h <;> simp only [Option.some.injEq, Prod.mk.injEq, reduceCtorEq] at h
    obtain ⟨rfl, rfl⟩ := h
    refine ⟨trivial, (Tryz.strings_HasPrefix _ _ w).mono ?_⟩
    rintro e w' ⟨rfl, rfl⟩
    exact ⟨rfl, Below.refl _ _⟩
  · rw [hP]
    refine ⟨fun args w => Tryz.call77 args w, ?_⟩
    unfold rowSuffix at h
    split at h <;> simp only [Option.some.injEq, Prod.mk.injEq, reduceCtorEq] at h
    obtain ⟨rfl, rfl⟩ := h
    refine ⟨trivial, (Tryz.strings_HasSuffix _ _ w (by simpa [ByteArray.size] using hp)).mono ?_⟩
    rintro e w' ⟨rfl, rfl⟩
    exact ⟨rfl, Below.refl _ _⟩
  · rw [hP]
    refine ⟨fun args w => Tryz.call52 args w, ?_⟩
    unfold rowCutSufV at h
    split at h <;> simp only [Option.some.injEq, Prod.mk.injEq, reduceCtorEq] at h
    obtain ⟨rfl, rfl⟩ := h
    refine ⟨by intro x hx; simp at hx; rcases hx with rfl | rfl <;> trivial, (Tryz.strings_CutSuffix _ _ w (by simpa [ByteArray.size] using hp)).mono ?_⟩
    rintro e w' ⟨rfl, rfl⟩
    exact ⟨rfl, Below.refl _ _⟩
  · exact tC2_ok hP hE hW hl f en xs p v h hp ρ w hup hHp hHo hinj hwf
theorem infoCmd : (Tryz.prog.info? 54).map (fun i => (i.zero, i.size, i.bytes)) = some (some (.agg (rcA Cd.zero).toArray), 16, 136) := by kernel_rfl
def gkC (ex : Int) (he : Bool) (k : List UInt8) : Cd := { Cd.zero with op := 1, key := k, exp := ex, hasExp := he }
def lastK (ks : List (List UInt8)) (j : Nat) : List UInt8 := ((ks.take j).getLast?).getD []
def gkE (ex : Int) (he : Bool) (k : List UInt8) : EN := ⟨(54, 0, whole), [.i .i64 1, .i .i64 0, .s k, .s [], .i .u32 0, .i .i64 ex, .b he, .i .u64 0, .b false, .i .u64 0, .i .u64 0, .b false, .b false, .i .i64 0, .i .i64 0, .b false], true⟩
def enGet (name : List UInt8) (W : SC) (behind : List UInt8) (q : Bool) (ex : Int) (he : Bool) (ks : List (List UInt8)) (j : Nat) (lk : List UInt8) : List EN :=
  [⟨(77, 0, whole), lnC name W behind 0 q, true⟩, ⟨(30, 0, whole), rqS noCmds Rq.zero, true⟩, gkE ex he lk, rwE 54 16 j (flatG rcS ((ks.take j).map (gkC ex he)))]
def slGet (a : Option Addr) (m c : Nat) (j : Nat) : List (Nat × SV) := [(41, .c (.i .i64 (j : Int))), (40, .c (.i .i64 (m : Int))), (39, .c (.v (.slice a m c))), (5, .c (.rw 3 j)), (3, .c (.p 2 0)), (2, .c (.p 1 0)), (0, .c (.p 0 0))]
theorem lastK_succ {ks : List (List UInt8)} {j : Nat} {x : List UInt8} (hx : ks[j]? = some x) : lastK ks (j + 1) = x := by
  have hj := (List.getElem?_eq_some_iff.1 hx).1
  have e : ks[j] = x := (List.getElem?_eq_some_iff.1 hx).2
  unfold lastK
  rw [List.take_succ_eq_append_getElem hj, List.getLast?_append]
  simp [e]
theorem cmds_succ {ks : List (List UInt8)} {j : Nat} {x : List UInt8} (ex : Int) (he : Bool) (hx : ks[j]? = some x) : flatG rcS ((ks.take (j + 1)).map (gkC ex he)) = flatG rcS ((ks.take j).map (gkC ex he)) ++ rcS (gkC ex he x) := by
  have hj := (List.getElem?_eq_some_iff.1 hx).1
  have e : ks[j] = x := (List.getElem?_eq_some_iff.1 hx).2
  rw [List.take_succ_eq_append_getElem hj, List.map_append, flatG_app, e]
  simp [flatG]
theorem suf_last (name : List UInt8) : Lib.hasSuffix name [115] = (name.getLast? == some 115) := by
  rw [Bool.eq_iff_iff]
  show ([115] : List UInt8).isSuffixOf name = true ↔ _
  rw [List.isSuffixOf_iff_suffix, beq_iff_eq]
  constructor
  · rintro ⟨l, rfl⟩; simp
  · intro h
    obtain ⟨ys, rfl⟩ := List.getLast?_eq_some_iff.1 h
    exact ⟨ys, rfl⟩
def keysF (gat : Bool) (ws : List (List UInt8)) : List (List UInt8) := if gat then ws.drop 1 else ws
def exF (gat : Bool) (ws : List (List UInt8)) : Int := if gat then (secF (ws.getD 0 [])).1 else 0
theorem getR_eq {name : List UInt8} {gat : Bool} (hg : Lib.hasPrefix name [103, 97, 116] = gat) (ws : List (List UInt8)) (h2 : gat = true → 2 ≤ ws.length) (hs : gat = true → (secF (ws.getD 0 [])).2 = true) :
    getR name ws = if keysF gat ws = [] then .fault f_unknown else if (keysF gat ws).all keyB then .got { doR ((keysF gat ws).map (gkC (exF gat ws) gat)) false with tokens := Lib.hasSuffix name [115] } false 0 else .fault f_format := by
  have hg' : ([103, 97, 116] : List UInt8).isPrefixOf name = gat := hg
  rw [suf_last]
  cases gat with
  | false =>
    simp only [getR, hg', keysF, exF, Bool.false_and, Bool.false_eq_true, if_false]
    rfl
  | true =>
    have h3 : ¬ ws.length < 2 := by have := h2 rfl; omega
    have h4 := hs rfl
    have h5 : (decide (ws.length < 2)) = false := decide_eq_false h3
    simp only [getR, hg', keysF, exF, Bool.true_and, if_true, h4, Bool.not_true, Bool.false_eq_true, if_false, if_neg h3, h5]
    rfl
theorem get_bad {name : List UInt8} {gat : Bool} (hg : Lib.hasPrefix name [103, 97, 116] = gat) {ws : List (List UInt8)} (h2 : gat = true → 2 ≤ ws.length) (hs : gat = true → (secF (ws.getD 0 [])).2 = true) {j : Nat} {x : List UInt8} (hx : (keysF gat ws)[j]? = some x) (hk : keyB x = false) : getR name ws = .fault f_format := by
  have hm := List.mem_of_getElem? hx
  have hall : (keysF gat ws).all keyB = false := by
    refine Bool.eq_false_iff.2 fun h => ?_
    have := List.all_eq_true.1 h x hm
    rw [hk] at this; cases this
  rw [getR_eq hg ws h2 hs, if_neg (List.ne_nil_of_mem hm), hall, if_neg (by simp)]
theorem get_good {name : List UInt8} {gat : Bool} (hg : Lib.hasPrefix name [103, 97, 116] = gat) {ws : List (List UInt8)} (h2 : gat = true → 2 ≤ ws.length) (hs : gat = true → (secF (ws.getD 0 [])).2 = true) (hne : keysF gat ws ≠ []) (hall : ∀ x ∈ keysF gat ws, keyB x = true) :
    getR name ws = .got { doR ((keysF gat ws).map (gkC (exF gat ws) gat)) false with tokens := Lib.hasSuffix name [115] } false 0 := by
  rw [getR_eq hg ws h2 hs, if_neg hne, if_pos (List.all_eq_true.2 hall)]
theorem get_w {name : List UInt8} {w : World} {g : Nat} {a : Option Addr} {c : Nat} {ws : List (List UInt8)} {behind : List UInt8} (h : Ln w g name a ws.length c ws behind 0 false) (hnl : name.length ≤ 100000) (hn : ws.length ≤ 100000) (hl : ∀ x ∈ ws, x.length ≤ 100000) (hE0 : EnvG g w) :
    Calls Tryz.prog 54 #[.pointer (some ⟨g, 0, none⟩)] w (MP F1 g w (getR name ws)) := by
  have hl1 : ∀ x ∈ ws, x.length ≤ 9223372036854775807 := fun x hx => by have := hl x hx; omega
  obtain ⟨n, hnn⟩ : ∃ n, ws.length = n := ⟨_, rfl⟩
  refine calls_of_Run Tryz.func54 rfl kp54 (S := One g) (ρ := fun _ => reOfV g) [.c (.p 0 0)] Tryz.ntmps54 (ln_at h.blk true (One g) (fun _ => rfl)) (by simp [SV.wf, SC.wf]) (by simp) ?_
  intro C hC hP hk
  have hLW : LW C g w := lw_of hC Nat.zero_lt_one rfl
  have hE : EnvCV C := hE0.C hLW.S hLW.w0
  have hW : ∀ w', Upd C.S C.w0 w' → RawSV w' g a ws := fun w' hu => by rw [hLW.S, hLW.w0] at hu; exact h.raw.upd hu
  have hr : ∀ (k : Nat) x, ws[k]? = some x → ∃ b o, a = some ⟨b, o, none⟩ ∧ C.rd b (o + k) 1 = some [.s x] := fun k x hx => h.raw.rd (D := C) (by rw [hLW.S]; exact fun k hk => hk) hLW.w0 hx
  have hctr := tC4_ok hP hE hW hl1
  cases hgat : Lib.hasPrefix name [103, 97, 116] with
  | false =>
    have e2 : false = true → 2 ≤ ws.length := fun h => by cases h
    have es : false = true → (secF (ws.getD 0 [])).2 = true := fun h => by cases h
    cases hlt : decide ((0 : Int) < (n : Int)) with
    | false =>
      have h0 : n = 0 := by simpa using hlt
      (refine VT_ok hctr (rs := res54) true 300 _ _ _ ?_; simp (maxSteps := 1000000) only [VT, jf, jg, jZ, ja, jd, je, VC, qA, qB, qC, qD, qE, qF, qG, qH, qI, qJ, qK, qL, qM, qN, qO, qP, qQ, qR, qS, qT, qU, qV, qW, qX, qY, qZ, qe, qf, qg, qh, qj, qk, ql, qm, qn, qo, qp, qq, q0t, qu, qv, ev, qw, qy, qz, zA, zB, zC, zD, zE, zF, zG, zH, zI, zJ, TE.sv, zK, zL, zM, ↓reduceIte, reduceCtorEq, Value.oneCell', Nat.reduceEqDiff, Nat.reduceAdd, Nat.reduceLT, Nat.reduceBEq, Nat.reduceSub, Nat.reduceLeDiff, zP, zQ, zR, zS, zT, zU, zV, zW, zX, zY, zZ, za, zb, zc, zd, ze, zf, zg, zh, zi, zj, zk, zl, zm, zn, zo, zp, zq, zr, zt, zu, zw, zx, zy, zz, cE, jA, jB, hap, killE, deadOf, rwE, cD, cO, jC, jD, jE, jF, jG, jH, jI, jJ, jK, jL, jM, jN, jO, jP, jQ, jR, jS, jT, jU, jV, jW, jX, jY, hP, hk, res54, kp54, tC4, tC2, tC1, tC0V, rowPrefix, rowSuffix, rowNeedV, rowKeyBV, rowCount, rowLSec, slGet, enGet, gkE, rqS, noCmds, Rq.zero, rwE, lnC, Int.toNat_natCast, Int.toNat_zero, Int.toNat_one, Nat.mul_one, Nat.zero_mul, Nat.add_zero, Int.le_refl, Nat.reduceMul, hgat, hnn, hlt])
      exact Run_need hC hP rfl rfl (mp_fault hC Nat.zero_lt_one rfl (f := f_unknown) (by rw [getR_eq hgat ws e2 es, if_pos]; exact List.eq_nil_of_length_eq_zero (by show ws.length = 0; omega)) (name := name) (behind := behind) (quiet := false) rfl)
    | true =>
      have h0 : 0 < n := by simpa using hlt
      obtain ⟨x0, hx0⟩ : ∃ x, ws[0]? = some x := ⟨_, List.getElem?_eq_getElem (by omega)⟩
      obtain ⟨b0, oo, rfl, _⟩ := hr 0 x0 hx0
      have hrK : ∀ (k : Nat) x, ws[k]? = some x → C.rd b0 (oo + k) 1 = some [.s x] := fun k x hx => by
        obtain ⟨_, _, he, h1⟩ := hr k x hx
        cases he; exact h1
      have hlK := hl1
      have hkn := hnn
      (refine VT_ok hctr (rs := res54) true 300 _ _ _ ?_; simp (maxSteps := 1000000) only [VT, jf, jg, jZ, ja, jd, je, VC, qA, qB, qC, qD, qE, qF, qG, qH, qI, qJ, qK, qL, qM, qN, qO, qP, qQ, qR, qS, qT, qU, qV, qW, qX, qY, qZ, qe, qf, qg, qh, qj, qk, ql, qm, qn, qo, qp, qq, q0t, qu, qv, ev, qw, qy, qz, zA, zB, zC, zD, zE, zF, zG, zH, zI, zJ, TE.sv, zK, zL, zM, ↓reduceIte, reduceCtorEq, Value.oneCell', Nat.reduceEqDiff, Nat.reduceAdd, Nat.reduceLT, Nat.reduceBEq, Nat.reduceSub, Nat.reduceLeDiff, zP, zQ, zR, zS, zT, zU, zV, zW, zX, zY, zZ, za, zb, zc, zd, ze, zf, zg, zh, zi, zj, zk, zl, zm, zn, zo, zp, zq, zr, zt, zu, zw, zx, zy, zz, cE, jA, jB, hap, killE, deadOf, rwE, cD, cO, jC, jD, jE, jF, jG, jH, jI, jJ, jK, jL, jM, jN, jO, jP, jQ, jR, jS, jT, jU, jV, jW, jX, jY, hP, hk, res54, kp54, tC4, tC2, tC1, tC0V, rowPrefix, rowSuffix, rowNeedV, rowKeyBV, rowCount, rowLSec, slGet, enGet, gkE, rqS, noCmds, Rq.zero, rwE, lnC, Int.toNat_natCast, Int.toNat_zero, Int.toNat_one, Nat.mul_one, Nat.zero_mul, Nat.add_zero, Int.le_refl, Nat.reduceMul, hgat, hnn, hlt])
      refine Run_nilrowG true (en' := [⟨(77, 0, whole), lnC name (.v (.slice (some ⟨b0, oo, none⟩) n c)) behind 0 false, true⟩, ⟨(30, 0, whole), rqS noCmds Rq.zero, true⟩, gkE 0 false []]) (sl' := slGet (some ⟨b0, oo, none⟩) n c 0) (54, 0, rowP 16 0 0) rfl (fun _ => ⟨rfl, .inr ⟨rfl, rfl, rfl⟩⟩) (fun _ => by show ¬ (54 : Nat) = DEAD; decide) ?_ ?_ ?_
      · refine ⟨⟨rfl, rfl, fun ρ h => rfl, ?_⟩, ⟨rfl, rfl, fun ρ h => rfl, ?_⟩, ⟨rfl, rfl, fun ρ h => rfl, ?_⟩, trivial⟩
        all_goals simp [wfs, SC.wf, lnC, gkE, rqS, noCmds]
      · refine ⟨⟨⟨_, rfl, fun ρ h => rfl⟩, ?_⟩, ⟨⟨_, rfl, fun ρ h => rfl⟩, ?_⟩, ⟨⟨_, rfl, fun ρ h => rfl⟩, ?_⟩, ⟨⟨_, rfl, fun ρ h => ?_⟩, ?_⟩, ⟨⟨_, rfl, fun ρ h => rfl⟩, ?_⟩, ⟨⟨_, rfl, fun ρ h => rfl⟩, ?_⟩, ⟨⟨_, rfl, fun ρ h => rfl⟩, ?_⟩, trivial⟩
        case refine_4 => have h : (ρ 3).nl = some none := h; simp only [SV.den, SC.den, rwOf_off h]
        all_goals simp [SV.wf, SC.wf, zG]
      refine Run_loopP (ι := { j : Nat // j ≤ n ∧ ∀ x ∈ (ws).take j, keyB x = true }) (fun j => slGet (some ⟨b0, oo, none⟩) n c j.1) (fun j => enGet name (.v (.slice (some ⟨b0, oo, none⟩) n c)) behind false 0 false (ws) j.1 (lastK (ws) j.1)) (fun j => n + 1 - j.1) ⟨0, Nat.zero_le _, by simp⟩ (sub_mk ⟨rfl, rfl, rfl, rfl, rfl, rfl, rfl, trivial⟩) rfl ?_
      rintro ⟨j, hj, hall⟩ D dP dS dw dn dr dk ddf dPan dRet hX hJ
      have hP0 := hP; have hk0 := hk; have hctr0 := hctr
      have hP : D.P = Tryz.prog := by rw [dP]; exact hP0
      have hk : D.kp = kp54 := by rw [dk]; exact hk0
      have hctr : CtrOk D (tC4 (some ⟨b0, oo, none⟩) ws) := tC4_ok hP (by unfold EnvCV; rw [dS, dw]; exact hE) (by rw [dS, dw]; exact hW) hl1
      show Run D _ _ (slGet (some ⟨b0, oo, none⟩) n c j) (enGet name (.v (.slice (some ⟨b0, oo, none⟩) n c)) behind false 0 false (ws) j (lastK (ws) j))
      by_cases hjn : j < n
      · obtain ⟨x, hx⟩ : ∃ x, (ws)[j]? = some x := ⟨_, List.getElem?_eq_getElem (by omega)⟩
        have c1 : decide ((j : Int) < ((n : Nat) : Int)) = true := decide_eq_true (by omega)
        have p3 : IntKind.i64.wrap ((j : Int) + 1) = ((j + 1 : Nat) : Int) := by rw [IntWalk.i64_in _ (by omega)]; rfl
        have lx := hlK x (List.mem_of_getElem? hx)
        have p0 : (0 : Int) ≤ (j : Int) := by omega
        have p1 : (j : Int) < ((n : Nat) : Int) := by omega
        have hrx := hrK j x hx
        have hrx : D.rd b0 (oo + j) 1 = some [.s x] := by rw [show D.rd = C.rd by unfold Cx.rd; rw [dS, dw]]; exact hrx
        cases hkb : keyB x with
        | false =>
          (refine VT_ok hctr (rs := res54) true 300 _ _ _ ?_; simp (maxSteps := 1000000) only [VT, jf, jg, jZ, ja, jd, je, VC, qA, qB, qC, qD, qE, qF, qG, qH, qI, qJ, qK, qL, qM, qN, qO, qP, qQ, qR, qS, qT, qU, qV, qW, qX, qY, qZ, qe, qf, qg, qh, qj, qk, ql, qm, qn, qo, qp, qq, q0t, qu, qv, ev, qw, qy, qz, zA, zB, zC, zD, zE, zF, zG, zH, zI, zJ, TE.sv, zK, zL, zM, ↓reduceIte, reduceCtorEq, Value.oneCell', Nat.reduceEqDiff, Nat.reduceAdd, Nat.reduceLT, Nat.reduceBEq, Nat.reduceSub, Nat.reduceLeDiff, zP, zQ, zR, zS, zT, zU, zV, zW, zX, zY, zZ, za, zb, zc, zd, ze, zf, zg, zh, zi, zj, zk, zl, zm, zn, zo, zp, zq, zr, zt, zu, zw, zx, zy, zz, cE, jA, jB, hap, killE, deadOf, rwE, cD, cO, jC, jD, jE, jF, jG, jH, jI, jJ, jK, jL, jM, jN, jO, jP, jQ, jR, jS, jT, jU, jV, jW, jX, jY, hP, hk, res54, kp54, tC4, tC2, tC1, tC0V, rowPrefix, rowSuffix, rowNeedV, rowKeyBV, rowCount, rowLSec, slGet, enGet, gkE, rqS, noCmds, Rq.zero, rwE, lnC, Int.toNat_natCast, Int.toNat_zero, Int.toNat_one, Nat.mul_one, Nat.zero_mul, Nat.add_zero, Int.le_refl, Nat.reduceMul, c1, p3, p0, p1, hrx, hkb, lx])
          refine Run_needQ hP rfl rfl fun ρ w' a' hw ha => dPan _ _ _ (q_pan hC (mp_fault hC Nat.zero_lt_one rfl (f := f_format) (get_bad hgat e2 es (j := j) (x := x) (by first | exact hx | (simp only [keysF, if_true]; exact hx)) hkb) (name := name) (behind := behind) (quiet := false) rfl ρ w' (hw.toC dS.symm dw.symm dr.symm dn.symm)) a' (ha.trans ddf))
        | true =>
          (refine VT_ok hctr (rs := res54) true 300 _ _ _ ?_; simp (maxSteps := 1000000) only [VT, jf, jg, jZ, ja, jd, je, VC, qA, qB, qC, qD, qE, qF, qG, qH, qI, qJ, qK, qL, qM, qN, qO, qP, qQ, qR, qS, qT, qU, qV, qW, qX, qY, qZ, qe, qf, qg, qh, qj, qk, ql, qm, qn, qo, qp, qq, q0t, qu, qv, ev, qw, qy, qz, zA, zB, zC, zD, zE, zF, zG, zH, zI, zJ, TE.sv, zK, zL, zM, ↓reduceIte, reduceCtorEq, Value.oneCell', Nat.reduceEqDiff, Nat.reduceAdd, Nat.reduceLT, Nat.reduceBEq, Nat.reduceSub, Nat.reduceLeDiff, zP, zQ, zR, zS, zT, zU, zV, zW, zX, zY, zZ, za, zb, zc, zd, ze, zf, zg, zh, zi, zj, zk, zl, zm, zn, zo, zp, zq, zr, zt, zu, zw, zx, zy, zz, cE, jA, jB, hap, killE, deadOf, rwE, cD, cO, jC, jD, jE, jF, jG, jH, jI, jJ, jK, jL, jM, jN, jO, jP, jQ, jR, jS, jT, jU, jV, jW, jX, jY, hP, hk, res54, kp54, tC4, tC2, tC1, tC0V, rowPrefix, rowSuffix, rowNeedV, rowKeyBV, rowCount, rowLSec, slGet, enGet, gkE, rqS, noCmds, Rq.zero, rwE, lnC, Int.toNat_natCast, Int.toNat_zero, Int.toNat_one, Nat.mul_one, Nat.zero_mul, Nat.add_zero, Int.le_refl, Nat.reduceMul, c1, p3, p0, p1, hrx, hkb, lx])
          obtain ⟨i0, hi, hz0, hz1, hz2⟩ := info_parts infoCmd
          have jB : flatG rcS (((ws).take j).map (gkC 0 false)) ++ [.i .i64 1, .i .i64 0, .s x, .s [], .i .u32 0, .i .i64 0, .b false, .i .u64 0, .b false, .i .u64 0, .i .u64 0, .b false, .b false, .i .i64 0, .i .i64 0, .b false] = flatG rcS (((ws).take (j + 1)).map (gkC 0 false)) := (cmds_succ 0 false hx).symm
          refine append_op (t := 27) (e := 54) (z := 16) (n := j) (m := 1) (bts := 136) (X := .rw 3 j) (Y := .sl 4 0 1 1) (o := some 3) (by rw [hP]; exact Tryz.underlying27) (by rw [hP]; exact hi) hz0 hz1 hz2 rfl (by decide) (by show ¬ (54 : Nat) = DEAD; decide) (.some rfl) rfl rfl (src_sl (L := 16) rfl rfl) rfl rfl (fun pr => by intro y hy; simp only [List.mem_cons, List.not_mem_nil, or_false] at hy; rcases hy with rfl | rfl | rfl | rfl | rfl | rfl | rfl | rfl | rfl | rfl | rfl | rfl | rfl | rfl | rfl | rfl <;> trivial) (by omega) (by omega) (by rw [dn, hC]; simp [zL]) rfl (by simp) ?_
          rw [jB]
          (refine VT_ok hctr (rs := res54) true 300 _ _ _ ?_; simp (maxSteps := 1000000) only [VT, jf, jg, jZ, ja, jd, je, VC, qA, qB, qC, qD, qE, qF, qG, qH, qI, qJ, qK, qL, qM, qN, qO, qP, qQ, qR, qS, qT, qU, qV, qW, qX, qY, qZ, qe, qf, qg, qh, qj, qk, ql, qm, qn, qo, qp, qq, q0t, qu, qv, ev, qw, qy, qz, zA, zB, zC, zD, zE, zF, zG, zH, zI, zJ, TE.sv, zK, zL, zM, ↓reduceIte, reduceCtorEq, Value.oneCell', Nat.reduceEqDiff, Nat.reduceAdd, Nat.reduceLT, Nat.reduceBEq, Nat.reduceSub, Nat.reduceLeDiff, zP, zQ, zR, zS, zT, zU, zV, zW, zX, zY, zZ, za, zb, zc, zd, ze, zf, zg, zh, zi, zj, zk, zl, zm, zn, zo, zp, zq, zr, zt, zu, zw, zx, zy, zz, cE, jA, jB, hap, killE, deadOf, rwE, cD, cO, jC, jD, jE, jF, jG, jH, jI, jJ, jK, jL, jM, jN, jO, jP, jQ, jR, jS, jT, jU, jV, jW, jX, jY, hP, hk, res54, kp54, tC4, tC2, tC1, tC0V, rowPrefix, rowSuffix, rowNeedV, rowKeyBV, rowCount, rowLSec, slGet, enGet, gkE, rqS, noCmds, Rq.zero, rwE, lnC, Int.toNat_natCast, Int.toNat_zero, Int.toNat_one, Nat.mul_one, Nat.zero_mul, Nat.add_zero, Int.le_refl, Nat.reduceMul, killE, deadOf, c1, p3])
          have hJ' := hJ ⟨j + 1, by omega, fun y hy => ?_⟩ (slGet (some ⟨b0, oo, none⟩) n c (j + 1)) (by show n + 1 - (j + 1) < n + 1 - j; omega) (fun d v h => h)
          rw [lastK_succ hx] at hJ'
          refine Run_keepN (f := fun c => if c = 3 then 5 else c) (enK := enGet name (.v (.slice (some ⟨b0, oo, none⟩) n c)) behind false 0 false (ws) (j + 1) x) (slK := slGet (some ⟨b0, oo, none⟩) n c (j + 1)) ⟨fun q hq => ?_, ?_⟩ ?_ ?_ ?_ hJ'
          · have : q < 1 := by rw [dn, hC] at hq; exact hq
            rw [if_neg (by omega)]
          · rw [dn, hC]; exact (by decide : 1 ≤ 4)
          · intro p q hp hq h
            have hp : p < 4 := hp
            have hq : q < 4 := hq
            have h : (if p = 3 then 5 else p) = (if q = 3 then 5 else q) := h
            split at h <;> split at h <;> omega
          · refine ⟨⟨_, rfl, fun ρ => rfl, ?_⟩, ⟨_, rfl, fun ρ => rfl, ?_⟩, ⟨_, rfl, fun ρ => rfl, ?_⟩, ⟨_, rfl, fun ρ => (rc_den _ _).trans (rc_den _ _).symm, rc_wf _ _⟩, trivial⟩
            all_goals simp [wfs, SC.wf, lnC, gkE, rqS, noCmds]
          · refine ⟨⟨?_, _, rfl, fun ρ => rfl⟩, ⟨?_, _, rfl, fun ρ => rfl⟩, ⟨?_, _, rfl, fun ρ => rfl⟩, ⟨?_, _, rfl, fun ρ => rfl⟩, ⟨?_, _, rfl, fun ρ => rfl⟩, ⟨?_, _, rfl, fun ρ => rfl⟩, ⟨?_, _, rfl, fun ρ => rfl⟩, trivial⟩
            all_goals simp [SV.wf, SC.wf, enGet]
          · rw [List.take_succ_eq_append_getElem (by omega), List.mem_append, List.mem_singleton] at hy
            rcases hy with hy | rfl
            · exact hall y hy
            · have e : (ws)[j]'(by omega) = x := (List.getElem?_eq_some_iff.1 hx).2
              rw [e]; exact hkb
      · have hjm : j = n := by omega
        have htk : (ws).take j = ws := List.take_of_length_le (by omega)
        have c1 : decide ((j : Int) < ((n : Nat) : Int)) = false := decide_eq_false (by omega)
        (refine VT_ok hctr (rs := res54) true 300 _ _ _ ?_; simp (maxSteps := 1000000) only [VT, jf, jg, jZ, ja, jd, je, VC, qA, qB, qC, qD, qE, qF, qG, qH, qI, qJ, qK, qL, qM, qN, qO, qP, qQ, qR, qS, qT, qU, qV, qW, qX, qY, qZ, qe, qf, qg, qh, qj, qk, ql, qm, qn, qo, qp, qq, q0t, qu, qv, ev, qw, qy, qz, zA, zB, zC, zD, zE, zF, zG, zH, zI, zJ, TE.sv, zK, zL, zM, ↓reduceIte, reduceCtorEq, Value.oneCell', Nat.reduceEqDiff, Nat.reduceAdd, Nat.reduceLT, Nat.reduceBEq, Nat.reduceSub, Nat.reduceLeDiff, zP, zQ, zR, zS, zT, zU, zV, zW, zX, zY, zZ, za, zb, zc, zd, ze, zf, zg, zh, zi, zj, zk, zl, zm, zn, zo, zp, zq, zr, zt, zu, zw, zx, zy, zz, cE, jA, jB, hap, killE, deadOf, rwE, cD, cO, jC, jD, jE, jF, jG, jH, jI, jJ, jK, jL, jM, jN, jO, jP, jQ, jR, jS, jT, jU, jV, jW, jX, jY, hP, hk, res54, kp54, tC4, tC2, tC1, tC0V, rowPrefix, rowSuffix, rowNeedV, rowKeyBV, rowCount, rowLSec, slGet, enGet, gkE, rqS, noCmds, Rq.zero, rwE, lnC, Int.toNat_natCast, Int.toNat_zero, Int.toNat_one, Nat.mul_one, Nat.zero_mul, Nat.add_zero, Int.le_refl, Nat.reduceMul, c1])
        refine hX rfl rfl ?_
        have hP := hP0; have hk := hk0; have hctr := hctr0
        rw [htk, hjm]
        (refine VT_ok hctr (rs := res54) true 300 _ _ _ ?_; simp (maxSteps := 1000000) only [VT, jf, jg, jZ, ja, jd, je, VC, qA, qB, qC, qD, qE, qF, qG, qH, qI, qJ, qK, qL, qM, qN, qO, qP, qQ, qR, qS, qT, qU, qV, qW, qX, qY, qZ, qe, qf, qg, qh, qj, qk, ql, qm, qn, qo, qp, qq, q0t, qu, qv, ev, qw, qy, qz, zA, zB, zC, zD, zE, zF, zG, zH, zI, zJ, TE.sv, zK, zL, zM, ↓reduceIte, reduceCtorEq, Value.oneCell', Nat.reduceEqDiff, Nat.reduceAdd, Nat.reduceLT, Nat.reduceBEq, Nat.reduceSub, Nat.reduceLeDiff, zP, zQ, zR, zS, zT, zU, zV, zW, zX, zY, zZ, za, zb, zc, zd, ze, zf, zg, zh, zi, zj, zk, zl, zm, zn, zo, zp, zq, zr, zt, zu, zw, zx, zy, zz, cE, jA, jB, hap, killE, deadOf, rwE, cD, cO, jC, jD, jE, jF, jG, jH, jI, jJ, jK, jL, jM, jN, jO, jP, jQ, jR, jS, jT, jU, jV, jW, jX, jY, hP, hk, res54, kp54, tC4, tC2, tC1, tC0V, rowPrefix, rowSuffix, rowNeedV, rowKeyBV, rowCount, rowLSec, slGet, enGet, gkE, rqS, noCmds, Rq.zero, rwE, lnC, Int.toNat_natCast, Int.toNat_zero, Int.toNat_one, Nat.mul_one, Nat.zero_mul, Nat.add_zero, Int.le_refl, Nat.reduceMul, c1])
        have hcl : ((ws).map (gkC 0 false)).length = n := by rw [List.length_map, hkn]
        have hcl2 : (((ws).map (gkC 0 false)).map reC).length = n := by rw [List.length_map, hcl]
        have hkne : ws ≠ [] := by intro e; rw [e] at hkn; simp at hkn; omega
        have hcne : (ws).map (gkC 0 false) ≠ [] := by intro e; rw [e] at hcl; simp at hcl; omega
        refine Run_hcall rfl _ _ (do_h (C := C) (name := name) (W := .slice _ _ c) (behind := behind) (used := 0) (quiet := false) (mu := true) (M := 0) (N := 3) (V := .rw 3 (n)) (cs := (ws).map (gkC 0 false)) hP rfl rfl rfl (by simp [zG]) (by simp [zG]) (by decide) hcne (by rw [hcl]; omega) (fun ρ h1 h2 h3 => ?_) (fun pr h => h) (fun q hq => by simp only [zG, zE] at hq; omega) rfl) (by simp [zG, zE]) (by simp) ?_
        · obtain ⟨_, q⟩ := h3
          obtain ⟨_, _, _, q4, _⟩ := q.resolve_right (fun e => by rw [h2] at e; exact absurd e.1 (by simp))
          exact ⟨(ρ 3).cap, by rw [hcl]; exact q4, by simp only [SC.den]; rw [rwOf_on h2, hcl]⟩
        (refine VT_ok hctr (rs := res54) true 300 _ _ _ ?_; simp (maxSteps := 1000000) only [VT, jf, jg, jZ, ja, jd, je, VC, qA, qB, qC, qD, qE, qF, qG, qH, qI, qJ, qK, qL, qM, qN, qO, qP, qQ, qR, qS, qT, qU, qV, qW, qX, qY, qZ, qe, qf, qg, qh, qj, qk, ql, qm, qn, qo, qp, qq, q0t, qu, qv, ev, qw, qy, qz, zA, zB, zC, zD, zE, zF, zG, zH, zI, zJ, TE.sv, zK, zL, zM, ↓reduceIte, reduceCtorEq, Value.oneCell', Nat.reduceEqDiff, Nat.reduceAdd, Nat.reduceLT, Nat.reduceBEq, Nat.reduceSub, Nat.reduceLeDiff, zP, zQ, zR, zS, zT, zU, zV, zW, zX, zY, zZ, za, zb, zc, zd, ze, zf, zg, zh, zi, zj, zk, zl, zm, zn, zo, zp, zq, zr, zt, zu, zw, zx, zy, zz, cE, jA, jB, hap, killE, deadOf, rwE, cD, cO, jC, jD, jE, jF, jG, jH, jI, jJ, jK, jL, jM, jN, jO, jP, jQ, jR, jS, jT, jU, jV, jW, jX, jY, hP, hk, res54, kp54, tC4, tC2, tC1, tC0V, rowPrefix, rowSuffix, rowNeedV, rowKeyBV, rowCount, rowLSec, slGet, enGet, gkE, rqS, noCmds, Rq.zero, rwE, lnC, Int.toNat_natCast, Int.toNat_zero, Int.toNat_one, Nat.mul_one, Nat.zero_mul, Nat.add_zero, Int.le_refl, Nat.reduceMul, c1])
        refine ⟨by omega, ?_⟩
        refine mp_row hC Nat.zero_lt_one rfl hres54 (r := { doR ((ws).map (gkC 0 false)) false with tokens := Lib.hasSuffix name [115] }) (more := false) (used := 0) (by exact get_good hgat e2 es (by first | exact hkne | (simp only [keysF, if_true]; exact hkne)) (fun x hx => hall x (by rw [htk]; first | exact hx | (simp only [keysF, if_true] at hx; exact hx)))) (N := 3) (L := (flatG rcS ((ws).map (gkC 0 false))).length) (fun e => hcne (List.map_eq_nil_iff.1 e)) (fun ρ => ?_) (name := name) (W := .slice (some ⟨b0, oo, none⟩) n c) (behind := behind) (quiet := false) (mu := true) rfl ?_ (by decide)
        · show _ = rqA ((SC.rw 3 (((ws).map (gkC 0 false)).map reC).length).den ρ) _
          rw [hcl2]; rfl
        · show some (⟨(_, 0, rowP 16 n _), _, true⟩ : EN) = some ⟨(_, 0, rowP 16 (((ws).map (gkC 0 false)).map reC).length _), _, true⟩
          rw [hcl2]; rfl
  | true =>
    by_cases h2 : 2 ≤ n
    · have c2 : decide ((2 : Int) ≤ (n : Int)) = true := decide_eq_true (by omega)
      obtain ⟨x0, hx0⟩ : ∃ x, ws[0]? = some x := ⟨_, List.getElem?_eq_getElem (by omega)⟩
      obtain ⟨y0, hy0⟩ : ∃ ks, ws.drop 1 = ks := ⟨_, rfl⟩
      obtain rfl : ws = x0 :: y0 := by
        cases ws with
        | nil => simp at hx0
        | cons a l => simp at hx0 hy0; rw [hx0, hy0]
      obtain ⟨b0, o, rfl, _⟩ := hr 0 x0 rfl
      have p0 : (0 : Int) < (n : Int) := by omega
      have q1 : (0 : Int) ≤ 1 := by decide
      have q2 : (1 : Int) ≤ (n : Int) := by omega
      have q3 : (n : Int) ≤ (c : Int) := by have := h.cap; omega
      obtain ⟨oo, hoo⟩ : ∃ oo, (if c = 1 then o else o + 1) = oo := ⟨_, rfl⟩
      cases hs : (secF x0).2 with
      | false =>
        (refine VT_ok hctr (rs := res54) true 300 _ _ _ ?_; simp (maxSteps := 1000000) only [VT, jf, jg, jZ, ja, jd, je, VC, qA, qB, qC, qD, qE, qF, qG, qH, qI, qJ, qK, qL, qM, qN, qO, qP, qQ, qR, qS, qT, qU, qV, qW, qX, qY, qZ, qe, qf, qg, qh, qj, qk, ql, qm, qn, qo, qp, qq, q0t, qu, qv, ev, qw, qy, qz, zA, zB, zC, zD, zE, zF, zG, zH, zI, zJ, TE.sv, zK, zL, zM, ↓reduceIte, reduceCtorEq, Value.oneCell', Nat.reduceEqDiff, Nat.reduceAdd, Nat.reduceLT, Nat.reduceBEq, Nat.reduceSub, Nat.reduceLeDiff, zP, zQ, zR, zS, zT, zU, zV, zW, zX, zY, zZ, za, zb, zc, zd, ze, zf, zg, zh, zi, zj, zk, zl, zm, zn, zo, zp, zq, zr, zt, zu, zw, zx, zy, zz, cE, jA, jB, hap, killE, deadOf, rwE, cD, cO, jC, jD, jE, jF, jG, jH, jI, jJ, jK, jL, jM, jN, jO, jP, jQ, jR, jS, jT, jU, jV, jW, jX, jY, hP, hk, res54, kp54, tC4, tC2, tC1, tC0V, rowPrefix, rowSuffix, rowNeedV, rowKeyBV, rowCount, rowLSec, slGet, enGet, gkE, rqS, noCmds, Rq.zero, rwE, lnC, Int.toNat_natCast, Int.toNat_zero, Int.toNat_one, Nat.mul_one, Nat.zero_mul, Nat.add_zero, Int.le_refl, Nat.reduceMul, hgat, hnn, c2, hs])
        exact Run_lsec_no hC hP hE hW hl1 rfl rfl (name := name) (behind := behind) (quiet := false) (i := 0) (x := x0) rfl (Int.le_refl _) p0 rfl hs (mp_fault hC Nat.zero_lt_one rfl (f := f_exptime) (by
          have hg' : ([103, 97, 116] : List UInt8).isPrefixOf name = true := hgat
          have h5 : decide ((x0 :: y0).length < 2) = false := decide_eq_false (by omega)
          have h6 : (secF ((x0 :: y0).getD 0 [])).2 = false := hs
          simp only [getR, hg', h5, h6, Bool.true_and, Bool.not_false, if_true, Bool.false_eq_true, if_false]) (name := name) (behind := behind) (quiet := false) rfl)
      | true =>
        have e2 : true = true → 2 ≤ (x0 :: y0).length := fun _ => by omega
        have es : true = true → (secF ((x0 :: y0).getD 0 [])).2 = true := fun _ => hs
        obtain ⟨m, hm⟩ : ∃ m, y0.length = m := ⟨_, rfl⟩
        have hmn : n - 1 = m := by rw [← hnn, List.length_cons, hm]; omega
        obtain ⟨cc, hcc⟩ : ∃ cc, c - 1 = cc := ⟨_, rfl⟩
        have hlt : decide ((0 : Int) < (m : Int)) = true := decide_eq_true (by omega)
        have hrK : ∀ (k : Nat) x, y0[k]? = some x → C.rd b0 (oo + k) 1 = some [.s x] := fun k x hx => by
          obtain ⟨_, _, he, h1⟩ := hr (k + 1) x (by simpa using hx)
          cases he
          have : c ≠ 1 := by omega
          rw [← hoo, if_neg this, show o + 1 + k = o + (k + 1) by omega]
          exact h1
        have hlK : ∀ x ∈ y0, x.length ≤ 9223372036854775807 := fun x hx => hl1 x (List.mem_cons_of_mem _ hx)
        have hkn := hm
        have h0 : 0 < m := by omega
        obtain ⟨ex, hex⟩ : ∃ ex, (secF x0).1 = ex := ⟨_, rfl⟩
        (refine VT_ok hctr (rs := res54) true 300 _ _ _ ?_; simp (maxSteps := 1000000) only [VT, jf, jg, jZ, ja, jd, je, VC, qA, qB, qC, qD, qE, qF, qG, qH, qI, qJ, qK, qL, qM, qN, qO, qP, qQ, qR, qS, qT, qU, qV, qW, qX, qY, qZ, qe, qf, qg, qh, qj, qk, ql, qm, qn, qo, qp, qq, q0t, qu, qv, ev, qw, qy, qz, zA, zB, zC, zD, zE, zF, zG, zH, zI, zJ, TE.sv, zK, zL, zM, ↓reduceIte, reduceCtorEq, Value.oneCell', Nat.reduceEqDiff, Nat.reduceAdd, Nat.reduceLT, Nat.reduceBEq, Nat.reduceSub, Nat.reduceLeDiff, zP, zQ, zR, zS, zT, zU, zV, zW, zX, zY, zZ, za, zb, zc, zd, ze, zf, zg, zh, zi, zj, zk, zl, zm, zn, zo, zp, zq, zr, zt, zu, zw, zx, zy, zz, cE, jA, jB, hap, killE, deadOf, rwE, cD, cO, jC, jD, jE, jF, jG, jH, jI, jJ, jK, jL, jM, jN, jO, jP, jQ, jR, jS, jT, jU, jV, jW, jX, jY, hP, hk, res54, kp54, tC4, tC2, tC1, tC0V, rowPrefix, rowSuffix, rowNeedV, rowKeyBV, rowCount, rowLSec, slGet, enGet, gkE, rqS, noCmds, Rq.zero, rwE, lnC, Int.toNat_natCast, Int.toNat_zero, Int.toNat_one, Nat.mul_one, Nat.zero_mul, Nat.add_zero, Int.le_refl, Nat.reduceMul, hgat, hnn, c2, hs, p0, q1, q2, q3, hoo, hmn, hcc, hlt, hex])
        refine Run_nilrowG true (en' := [⟨(77, 0, whole), lnC name (.v (.slice (some ⟨b0, o, none⟩) n c)) behind 0 false, true⟩, ⟨(30, 0, whole), rqS noCmds Rq.zero, true⟩, gkE ex true []]) (sl' := slGet (some ⟨b0, oo, none⟩) m cc 0) (54, 0, rowP 16 0 0) rfl (fun _ => ⟨rfl, .inr ⟨rfl, rfl, rfl⟩⟩) (fun _ => by show ¬ (54 : Nat) = DEAD; decide) ?_ ?_ ?_
        · refine ⟨⟨rfl, rfl, fun ρ h => rfl, ?_⟩, ⟨rfl, rfl, fun ρ h => rfl, ?_⟩, ⟨rfl, rfl, fun ρ h => rfl, ?_⟩, trivial⟩
          all_goals simp [wfs, SC.wf, lnC, gkE, rqS, noCmds]
        · refine ⟨⟨⟨_, rfl, fun ρ h => rfl⟩, ?_⟩, ⟨⟨_, rfl, fun ρ h => rfl⟩, ?_⟩, ⟨⟨_, rfl, fun ρ h => rfl⟩, ?_⟩, ⟨⟨_, rfl, fun ρ h => ?_⟩, ?_⟩, ⟨⟨_, rfl, fun ρ h => rfl⟩, ?_⟩, ⟨⟨_, rfl, fun ρ h => rfl⟩, ?_⟩, ⟨⟨_, rfl, fun ρ h => rfl⟩, ?_⟩, trivial⟩
          case refine_4 => have h : (ρ 3).nl = some none := h; simp only [SV.den, SC.den, rwOf_off h]
          all_goals simp [SV.wf, SC.wf, zG]
        refine Run_loopP (ι := { j : Nat // j ≤ m ∧ ∀ x ∈ (y0).take j, keyB x = true }) (fun j => slGet (some ⟨b0, oo, none⟩) m cc j.1) (fun j => enGet name (.v (.slice (some ⟨b0, o, none⟩) n c)) behind false ex true (y0) j.1 (lastK (y0) j.1)) (fun j => m + 1 - j.1) ⟨0, Nat.zero_le _, by simp⟩ (sub_mk ⟨rfl, rfl, rfl, rfl, rfl, rfl, rfl, trivial⟩) rfl ?_
        rintro ⟨j, hj, hall⟩ D dP dS dw dn dr dk ddf dPan dRet hX hJ
        have hP0 := hP; have hk0 := hk; have hctr0 := hctr
        have hP : D.P = Tryz.prog := by rw [dP]; exact hP0
        have hk : D.kp = kp54 := by rw [dk]; exact hk0
        have hctr : CtrOk D (tC4 (some ⟨b0, o, none⟩) (x0 :: y0)) := tC4_ok hP (by unfold EnvCV; rw [dS, dw]; exact hE) (by rw [dS, dw]; exact hW) hl1
        show Run D _ _ (slGet (some ⟨b0, oo, none⟩) m cc j) (enGet name (.v (.slice (some ⟨b0, o, none⟩) n c)) behind false ex true (y0) j (lastK (y0) j))
        by_cases hjn : j < m
        · obtain ⟨x, hx⟩ : ∃ x, (y0)[j]? = some x := ⟨_, List.getElem?_eq_getElem (by omega)⟩
          have c1 : decide ((j : Int) < ((m : Nat) : Int)) = true := decide_eq_true (by omega)
          have p3 : IntKind.i64.wrap ((j : Int) + 1) = ((j + 1 : Nat) : Int) := by rw [IntWalk.i64_in _ (by omega)]; rfl
          have lx := hlK x (List.mem_of_getElem? hx)
          have p0 : (0 : Int) ≤ (j : Int) := by omega
          have p1 : (j : Int) < ((m : Nat) : Int) := by omega
          have hrx := hrK j x hx
          have hrx : D.rd b0 (oo + j) 1 = some [.s x] := by rw [show D.rd = C.rd by unfold Cx.rd; rw [dS, dw]]; exact hrx
          cases hkb : keyB x with
          | false =>
            (refine VT_ok hctr (rs := res54) true 300 _ _ _ ?_; simp (maxSteps := 1000000) only [VT, jf, jg, jZ, ja, jd, je, VC, qA, qB, qC, qD, qE, qF, qG, qH, qI, qJ, qK, qL, qM, qN, qO, qP, qQ, qR, qS, qT, qU, qV, qW, qX, qY, qZ, qe, qf, qg, qh, qj, qk, ql, qm, qn, qo, qp, qq, q0t, qu, qv, ev, qw, qy, qz, zA, zB, zC, zD, zE, zF, zG, zH, zI, zJ, TE.sv, zK, zL, zM, ↓reduceIte, reduceCtorEq, Value.oneCell', Nat.reduceEqDiff, Nat.reduceAdd, Nat.reduceLT, Nat.reduceBEq, Nat.reduceSub, Nat.reduceLeDiff, zP, zQ, zR, zS, zT, zU, zV, zW, zX, zY, zZ, za, zb, zc, zd, ze, zf, zg, zh, zi, zj, zk, zl, zm, zn, zo, zp, zq, zr, zt, zu, zw, zx, zy, zz, cE, jA, jB, hap, killE, deadOf, rwE, cD, cO, jC, jD, jE, jF, jG, jH, jI, jJ, jK, jL, jM, jN, jO, jP, jQ, jR, jS, jT, jU, jV, jW, jX, jY, hP, hk, res54, kp54, tC4, tC2, tC1, tC0V, rowPrefix, rowSuffix, rowNeedV, rowKeyBV, rowCount, rowLSec, slGet, enGet, gkE, rqS, noCmds, Rq.zero, rwE, lnC, Int.toNat_natCast, Int.toNat_zero, Int.toNat_one, Nat.mul_one, Nat.zero_mul, Nat.add_zero, Int.le_refl, Nat.reduceMul, c1, p3, p0, p1, hrx, hkb, lx])
            refine Run_needQ hP rfl rfl fun ρ w' a' hw ha => dPan _ _ _ (q_pan hC (mp_fault hC Nat.zero_lt_one rfl (f := f_format) (get_bad hgat e2 es (j := j) (x := x) (by first | exact hx | (simp only [keysF, if_true]; exact hx)) hkb) (name := name) (behind := behind) (quiet := false) rfl ρ w' (hw.toC dS.symm dw.symm dr.symm dn.symm)) a' (ha.trans ddf))
          | true =>
            (refine VT_ok hctr (rs := res54) true 300 _ _ _ ?_; simp (maxSteps := 1000000) only [VT, jf, jg, jZ, ja, jd, je, VC, qA, qB, qC, qD, qE, qF, qG, qH, qI, qJ, qK, qL, qM, qN, qO, qP, qQ, qR, qS, qT, qU, qV, qW, qX, qY, qZ, qe, qf, qg, qh, qj, qk, ql, qm, qn, qo, qp, qq, q0t, qu, qv, ev, qw, qy, qz, zA, zB, zC, zD, zE, zF, zG, zH, zI, zJ, TE.sv, zK, zL, zM, ↓reduceIte, reduceCtorEq, Value.oneCell', Nat.reduceEqDiff, Nat.reduceAdd, Nat.reduceLT, Nat.reduceBEq, Nat.reduceSub, Nat.reduceLeDiff, zP, zQ, zR, zS, zT, zU, zV, zW, zX, zY, zZ, za, zb, zc, zd, ze, zf, zg, zh, zi, zj, zk, zl, zm, zn, zo, zp, zq, zr, zt, zu, zw, zx, zy, zz, cE, jA, jB, hap, killE, deadOf, rwE, cD, cO, jC, jD, jE, jF, jG, jH, jI, jJ, jK, jL, jM, jN, jO, jP, jQ, jR, jS, jT, jU, jV, jW, jX, jY, hP, hk, res54, kp54, tC4, tC2, tC1, tC0V, rowPrefix, rowSuffix, rowNeedV, rowKeyBV, rowCount, rowLSec, slGet, enGet, gkE, rqS, noCmds, Rq.zero, rwE, lnC, Int.toNat_natCast, Int.toNat_zero, Int.toNat_one, Nat.mul_one, Nat.zero_mul, Nat.add_zero, Int.le_refl, Nat.reduceMul, c1, p3, p0, p1, hrx, hkb, lx])
            obtain ⟨i0, hi, hz0, hz1, hz2⟩ := info_parts infoCmd
            have jB : flatG rcS (((y0).take j).map (gkC ex true)) ++ [.i .i64 1, .i .i64 0, .s x, .s [], .i .u32 0, .i .i64 ex, .b true, .i .u64 0, .b false, .i .u64 0, .i .u64 0, .b false, .b false, .i .i64 0, .i .i64 0, .b false] = flatG rcS (((y0).take (j + 1)).map (gkC ex true)) := (cmds_succ ex true hx).symm
            refine append_op (t := 27) (e := 54) (z := 16) (n := j) (m := 1) (bts := 136) (X := .rw 3 j) (Y := .sl 4 0 1 1) (o := some 3) (by rw [hP]; exact Tryz.underlying27) (by rw [hP]; exact hi) hz0 hz1 hz2 rfl (by decide) (by show ¬ (54 : Nat) = DEAD; decide) (.some rfl) rfl rfl (src_sl (L := 16) rfl rfl) rfl rfl (fun pr => by intro y hy; simp only [List.mem_cons, List.not_mem_nil, or_false] at hy; rcases hy with rfl | rfl | rfl | rfl | rfl | rfl | rfl | rfl | rfl | rfl | rfl | rfl | rfl | rfl | rfl | rfl <;> trivial) (by omega) (by omega) (by rw [dn, hC]; simp [zL]) rfl (by simp) ?_
            rw [jB]
            (refine VT_ok hctr (rs := res54) true 300 _ _ _ ?_; simp (maxSteps := 1000000) only [VT, jf, jg, jZ, ja, jd, je, VC, qA, qB, qC, qD, qE, qF, qG, qH, qI, qJ, qK, qL, qM, qN, qO, qP, qQ, qR, qS, qT, qU, qV, qW, qX, qY, qZ, qe, qf, qg, qh, qj, qk, ql, qm, qn, qo, qp, qq, q0t, qu, qv, ev, qw, qy, qz, zA, zB, zC, zD, zE, zF, zG, zH, zI, zJ, TE.sv, zK, zL, zM, ↓reduceIte, reduceCtorEq, Value.oneCell', Nat.reduceEqDiff, Nat.reduceAdd, Nat.reduceLT, Nat.reduceBEq, Nat.reduceSub, Nat.reduceLeDiff, zP, zQ, zR, zS, zT, zU, zV, zW, zX, zY, zZ, za, zb, zc, zd, ze, zf, zg, zh, zi, zj, zk, zl, zm, zn, zo, zp, zq, zr, zt, zu, zw, zx, zy, zz, cE, jA, jB, hap, killE, deadOf, rwE, cD, cO, jC, jD, jE, jF, jG, jH, jI, jJ, jK, jL, jM, jN, jO, jP, jQ, jR, jS, jT, jU, jV, jW, jX, jY, hP, hk, res54, kp54, tC4, tC2, tC1, tC0V, rowPrefix, rowSuffix, rowNeedV, rowKeyBV, rowCount, rowLSec, slGet, enGet, gkE, rqS, noCmds, Rq.zero, rwE, lnC, Int.toNat_natCast, Int.toNat_zero, Int.toNat_one, Nat.mul_one, Nat.zero_mul, Nat.add_zero, Int.le_refl, Nat.reduceMul, killE, deadOf, c1, p3])
            have hJ' := hJ ⟨j + 1, by omega, fun y hy => ?_⟩ (slGet (some ⟨b0, oo, none⟩) m cc (j + 1)) (by show m + 1 - (j + 1) < m + 1 - j; omega) (fun d v h => h)
            rw [lastK_succ hx] at hJ'
            refine Run_keepN (f := fun c => if c = 3 then 5 else c) (enK := enGet name (.v (.slice (some ⟨b0, o, none⟩) n c)) behind false ex true (y0) (j + 1) x) (slK := slGet (some ⟨b0, oo, none⟩) m cc (j + 1)) ⟨fun q hq => ?_, ?_⟩ ?_ ?_ ?_ hJ'
            · have : q < 1 := by rw [dn, hC] at hq; exact hq
              rw [if_neg (by omega)]
            · rw [dn, hC]; exact (by decide : 1 ≤ 4)
            · intro p q hp hq h
              have hp : p < 4 := hp
              have hq : q < 4 := hq
              have h : (if p = 3 then 5 else p) = (if q = 3 then 5 else q) := h
              split at h <;> split at h <;> omega
            · refine ⟨⟨_, rfl, fun ρ => rfl, ?_⟩, ⟨_, rfl, fun ρ => rfl, ?_⟩, ⟨_, rfl, fun ρ => rfl, ?_⟩, ⟨_, rfl, fun ρ => (rc_den _ _).trans (rc_den _ _).symm, rc_wf _ _⟩, trivial⟩
              all_goals simp [wfs, SC.wf, lnC, gkE, rqS, noCmds]
            · refine ⟨⟨?_, _, rfl, fun ρ => rfl⟩, ⟨?_, _, rfl, fun ρ => rfl⟩, ⟨?_, _, rfl, fun ρ => rfl⟩, ⟨?_, _, rfl, fun ρ => rfl⟩, ⟨?_, _, rfl, fun ρ => rfl⟩, ⟨?_, _, rfl, fun ρ => rfl⟩, ⟨?_, _, rfl, fun ρ => rfl⟩, trivial⟩
              all_goals simp [SV.wf, SC.wf, enGet]
            · rw [List.take_succ_eq_append_getElem (by omega), List.mem_append, List.mem_singleton] at hy
              rcases hy with hy | rfl
              · exact hall y hy
              · have e : (y0)[j]'(by omega) = x := (List.getElem?_eq_some_iff.1 hx).2
                rw [e]; exact hkb
        · have hjm : j = m := by omega
          have htk : (y0).take j = y0 := List.take_of_length_le (by omega)
          have c1 : decide ((j : Int) < ((m : Nat) : Int)) = false := decide_eq_false (by omega)
          (refine VT_ok hctr (rs := res54) true 300 _ _ _ ?_; simp (maxSteps := 1000000) only [VT, jf, jg, jZ, ja, jd, je, VC, qA, qB, qC, qD, qE, qF, qG, qH, qI, qJ, qK, qL, qM, qN, qO, qP, qQ, qR, qS, qT, qU, qV, qW, qX, qY, qZ, qe, qf, qg, qh, qj, qk, ql, qm, qn, qo, qp, qq, q0t, qu, qv, ev, qw, qy, qz, zA, zB, zC, zD, zE, zF, zG, zH, zI, zJ, TE.sv, zK, zL, zM, ↓reduceIte, reduceCtorEq, Value.oneCell', Nat.reduceEqDiff, Nat.reduceAdd, Nat.reduceLT, Nat.reduceBEq, Nat.reduceSub, Nat.reduceLeDiff, zP, zQ, zR, zS, zT, zU, zV, zW, zX, zY, zZ, za, zb, zc, zd, ze, zf, zg, zh, zi, zj, zk, zl, zm, zn, zo, zp, zq, zr, zt, zu, zw, zx, zy, zz, cE, jA, jB, hap, killE, deadOf, rwE, cD, cO, jC, jD, jE, jF, jG, jH, jI, jJ, jK, jL, jM, jN, jO, jP, jQ, jR, jS, jT, jU, jV, jW, jX, jY, hP, hk, res54, kp54, tC4, tC2, tC1, tC0V, rowPrefix, rowSuffix, rowNeedV, rowKeyBV, rowCount, rowLSec, slGet, enGet, gkE, rqS, noCmds, Rq.zero, rwE, lnC, Int.toNat_natCast, Int.toNat_zero, Int.toNat_one, Nat.mul_one, Nat.zero_mul, Nat.add_zero, Int.le_refl, Nat.reduceMul, c1])
          refine hX rfl rfl ?_
          have hP := hP0; have hk := hk0; have hctr := hctr0
          rw [htk, hjm]
          (refine VT_ok hctr (rs := res54) true 300 _ _ _ ?_; simp (maxSteps := 1000000) only [VT, jf, jg, jZ, ja, jd, je, VC, qA, qB, qC, qD, qE, qF, qG, qH, qI, qJ, qK, qL, qM, qN, qO, qP, qQ, qR, qS, qT, qU, qV, qW, qX, qY, qZ, qe, qf, qg, qh, qj, qk, ql, qm, qn, qo, qp, qq, q0t, qu, qv, ev, qw, qy, qz, zA, zB, zC, zD, zE, zF, zG, zH, zI, zJ, TE.sv, zK, zL, zM, ↓reduceIte, reduceCtorEq, Value.oneCell', Nat.reduceEqDiff, Nat.reduceAdd, Nat.reduceLT, Nat.reduceBEq, Nat.reduceSub, Nat.reduceLeDiff, zP, zQ, zR, zS, zT, zU, zV, zW, zX, zY, zZ, za, zb, zc, zd, ze, zf, zg, zh, zi, zj, zk, zl, zm, zn, zo, zp, zq, zr, zt, zu, zw, zx, zy, zz, cE, jA, jB, hap, killE, deadOf, rwE, cD, cO, jC, jD, jE, jF, jG, jH, jI, jJ, jK, jL, jM, jN, jO, jP, jQ, jR, jS, jT, jU, jV, jW, jX, jY, hP, hk, res54, kp54, tC4, tC2, tC1, tC0V, rowPrefix, rowSuffix, rowNeedV, rowKeyBV, rowCount, rowLSec, slGet, enGet, gkE, rqS, noCmds, Rq.zero, rwE, lnC, Int.toNat_natCast, Int.toNat_zero, Int.toNat_one, Nat.mul_one, Nat.zero_mul, Nat.add_zero, Int.le_refl, Nat.reduceMul, c1])
          have hcl : ((y0).map (gkC ex true)).length = m := by rw [List.length_map, hkn]
          have hcl2 : (((y0).map (gkC ex true)).map reC).length = m := by rw [List.length_map, hcl]
          have hkne : y0 ≠ [] := by intro e; rw [e] at hkn; simp at hkn; omega
          have hcne : (y0).map (gkC ex true) ≠ [] := by intro e; rw [e] at hcl; simp at hcl; omega
          refine Run_hcall rfl _ _ (do_h (C := C) (name := name) (W := .slice _ _ c) (behind := behind) (used := 0) (quiet := false) (mu := true) (M := 0) (N := 3) (V := .rw 3 (m)) (cs := (y0).map (gkC ex true)) hP rfl rfl rfl (by simp [zG]) (by simp [zG]) (by decide) hcne (by rw [hcl]; omega) (fun ρ h1 h2 h3 => ?_) (fun pr h => h) (fun q hq => by simp only [zG, zE] at hq; omega) rfl) (by simp [zG, zE]) (by simp) ?_
          · obtain ⟨_, q⟩ := h3
            obtain ⟨_, _, _, q4, _⟩ := q.resolve_right (fun e => by rw [h2] at e; exact absurd e.1 (by simp))
            exact ⟨(ρ 3).cap, by rw [hcl]; exact q4, by simp only [SC.den]; rw [rwOf_on h2, hcl]⟩
          (refine VT_ok hctr (rs := res54) true 300 _ _ _ ?_; simp (maxSteps := 1000000) only [VT, jf, jg, jZ, ja, jd, je, VC, qA, qB, qC, qD, qE, qF, qG, qH, qI, qJ, qK, qL, qM, qN, qO, qP, qQ, qR, qS, qT, qU, qV, qW, qX, qY, qZ, qe, qf, qg, qh, qj, qk, ql, qm, qn, qo, qp, qq, q0t, qu, qv, ev, qw, qy, qz, zA, zB, zC, zD, zE, zF, zG, zH, zI, zJ, TE.sv, zK, zL, zM, ↓reduceIte, reduceCtorEq, Value.oneCell', Nat.reduceEqDiff, Nat.reduceAdd, Nat.reduceLT, Nat.reduceBEq, Nat.reduceSub, Nat.reduceLeDiff, zP, zQ, zR, zS, zT, zU, zV, zW, zX, zY, zZ, za, zb, zc, zd, ze, zf, zg, zh, zi, zj, zk, zl, zm, zn, zo, zp, zq, zr, zt, zu, zw, zx, zy, zz, cE, jA, jB, hap, killE, deadOf, rwE, cD, cO, jC, jD, jE, jF, jG, jH, jI, jJ, jK, jL, jM, jN, jO, jP, jQ, jR, jS, jT, jU, jV, jW, jX, jY, hP, hk, res54, kp54, tC4, tC2, tC1, tC0V, rowPrefix, rowSuffix, rowNeedV, rowKeyBV, rowCount, rowLSec, slGet, enGet, gkE, rqS, noCmds, Rq.zero, rwE, lnC, Int.toNat_natCast, Int.toNat_zero, Int.toNat_one, Nat.mul_one, Nat.zero_mul, Nat.add_zero, Int.le_refl, Nat.reduceMul, c1])
          refine ⟨by omega, ?_⟩
          refine mp_row hC Nat.zero_lt_one rfl hres54 (r := { doR ((y0).map (gkC ex true)) false with tokens := Lib.hasSuffix name [115] }) (more := false) (used := 0) (by rw [← hex]; exact get_good hgat e2 es (by first | exact hkne | (simp only [keysF, if_true]; exact hkne)) (fun x hx => hall x (by rw [htk]; first | exact hx | (simp only [keysF, if_true] at hx; exact hx)))) (N := 3) (L := (flatG rcS ((y0).map (gkC ex true))).length) (fun e => hcne (List.map_eq_nil_iff.1 e)) (fun ρ => ?_) (name := name) (W := .slice (some ⟨b0, o, none⟩) n c) (behind := behind) (quiet := false) (mu := true) rfl ?_ (by decide)
          · show _ = rqA ((SC.rw 3 (((y0).map (gkC ex true)).map reC).length).den ρ) _
            rw [hcl2]; rfl
          · show some (⟨(_, 0, rowP 16 m _), _, true⟩ : EN) = some ⟨(_, 0, rowP 16 (((y0).map (gkC ex true)).map reC).length _), _, true⟩
            rw [hcl2]; rfl
    · have c2 : decide ((2 : Int) ≤ (n : Int)) = false := decide_eq_false (by omega)
      (refine VT_ok hctr (rs := res54) true 300 _ _ _ ?_; simp (maxSteps := 1000000) only [VT, jf, jg, jZ, ja, jd, je, VC, qA, qB, qC, qD, qE, qF, qG, qH, qI, qJ, qK, qL, qM, qN, qO, qP, qQ, qR, qS, qT, qU, qV, qW, qX, qY, qZ, qe, qf, qg, qh, qj, qk, ql, qm, qn, qo, qp, qq, q0t, qu, qv, ev, qw, qy, qz, zA, zB, zC, zD, zE, zF, zG, zH, zI, zJ, TE.sv, zK, zL, zM, ↓reduceIte, reduceCtorEq, Value.oneCell', Nat.reduceEqDiff, Nat.reduceAdd, Nat.reduceLT, Nat.reduceBEq, Nat.reduceSub, Nat.reduceLeDiff, zP, zQ, zR, zS, zT, zU, zV, zW, zX, zY, zZ, za, zb, zc, zd, ze, zf, zg, zh, zi, zj, zk, zl, zm, zn, zo, zp, zq, zr, zt, zu, zw, zx, zy, zz, cE, jA, jB, hap, killE, deadOf, rwE, cD, cO, jC, jD, jE, jF, jG, jH, jI, jJ, jK, jL, jM, jN, jO, jP, jQ, jR, jS, jT, jU, jV, jW, jX, jY, hP, hk, res54, kp54, tC4, tC2, tC1, tC0V, rowPrefix, rowSuffix, rowNeedV, rowKeyBV, rowCount, rowLSec, slGet, enGet, gkE, rqS, noCmds, Rq.zero, rwE, lnC, Int.toNat_natCast, Int.toNat_zero, Int.toNat_one, Nat.mul_one, Nat.zero_mul, Nat.add_zero, Int.le_refl, Nat.reduceMul, hgat, hnn, c2])
      exact Run_count_no hC hP hE rfl rfl (name := name) (behind := behind) (quiet := false) rfl (by omega) (mp_fault hC Nat.zero_lt_one rfl (f := f_unknown) (by
        have hg' : ([103, 97, 116] : List UInt8).isPrefixOf name = true := hgat
        have h5 : decide (ws.length < 2) = true := decide_eq_true (by omega)
        simp only [getR, hg', h5, Bool.true_and, if_true]) (name := name) (behind := behind) (quiet := false) rfl)
end Go.Proofs.YtehfcboiimdkbaaGreatDoor
