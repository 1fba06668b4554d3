/- b64.Encode, walked. -/
import Derived.Test.YtlaagebdbcmckaaGreatDoorCEdec
import Derived.Test.YtlaagebdbcmckaaGreatDoorBM
namespace Go.Proofs.YtlaagebdbcmckaaGreatDoor
set_option linter.unusedSimpArgs false
set_option linter.unusedVariables false
set_option linter.unusedSimpArgs false
set_option linter.unusedVariables false
set_option maxHeartbeats 8000000
open Go.RowKit
set_option maxRecDepth 100000

def enC0 : Ctr := fun f en xs => match f with
  | 45 => rowBLen en xs
  | _ => none
theorem enC0_ok {C : Cx} (hP : C.P = Tryz.prog) : CtrOk C enC0 := by
  intro f en xs p v h hp ρ w hup hHp hHo hinj hwf
  unfold enC0 at h
  split at h
  · rw [hP]; exact ⟨fun args w => Tryz.call45 args w, rowBLen_ok h hp hHp hHo hwf⟩
  · cases h
/-- what a written byte leaves of a builder, told as it was told ahead -/
theorem keepB {D : Cx} {nt : Nat} {sl slK : List (Nat × SV)} {k : List KI} {out : List UInt8} {x : UInt8} (hn0 : D.n0 = 0) (hsl : keepS (fun c => if c = 1 then 2 else c) 2 sl slK) (h : Run D k nt slK (enDec (out ++ [x]))) :
    Run D k nt sl [bldE (.p 0 0) (.rw 2 (out ++ [x]).length), deadOf (rwB out), rwB (out ++ [x])] := by
  rw [enDec, show bX (out ++ [x]) = .p 0 0 from if_neg (by simp)] at h
  refine Run_keepN (f := fun c => if c = 1 then 2 else c) (enK := [bldE (.p 0 0) (.rw 1 (out ++ [x]).length), rwB (out ++ [x])]) (slK := slK) ⟨fun q hq => absurd hq (by rw [hn0]; exact Nat.not_lt_zero _), by rw [hn0]; exact Nat.zero_le _⟩ (fun p q hp hq h => ?_) ?_ hsl h
  · have hp : p < 2 := hp
    have hq : q < 2 := hq
    have h : (if p = 1 then 2 else p) = (if q = 1 then 2 else q) := h
    split at h <;> split at h <;> omega
  · refine ⟨⟨_, rfl, fun ρ => rfl, ?_⟩, ⟨_, rfl, fun ρ => ?_, bytesC_wf _ _⟩, trivial⟩
    · intro y hy
      simp only [bldE, List.mem_cons, List.not_mem_nil, or_false] at hy
      rcases hy with rfl | rfl
      · exact Nat.zero_lt_two
      · exact Nat.one_lt_two
    · show dens _ (bytesC (out ++ [x])) = dens ρ (bytesC (out ++ [x]))
      rw [bytesC_den, bytesC_den]
theorem Run_wb {D : Cx} {nt : Nat} {sl : List (Nat × SV)} {k : List KI} {dst : Option Nat} {ty : TypeId} {pos : String} {af : Array Edge} {all r : List Oper} {args : Array Operand} {tys : Array TypeId} {out : List UInt8} {x : UInt8} {X : SC} (hP : D.P = Tryz.prog) (hn0 : D.n0 = 0) (hX : X = .v (.pointer none) ∨ X = .p 0 0) (hl : out.length + 1 ≤ 100000000000)
    (hxs : evs sl args.toList = some [.c (.p 0 0), .c (.i .u8 (x.toNat : Int))]) (hd : ∀ d, dst = some d → d < nt)
    (hK : Run D (.ops all r :: k) nt (putSl dst (.c (.v .nilIface)) sl) [bldE (.p 0 0) (.rw 2 (out ++ [x]).length), deadOf (rwB out), rwB (out ++ [x])]) :
    Run D (.ops all (⟨dst, .call ⟨.value (.func 44), args, tys⟩, ty, pos, af, none⟩ :: r) :: k) nt sl [bldE X (.rw 1 out.length), rwB out] :=
  Run_hcall hxs (.c (.v .nilIface)) [bldE (.p 0 0) (.rw 2 (out ++ [x]).length), deadOf (rwB out), rwB (out ++ [x])] (wb_h (c := 0) (d := 1) (N := 2) (l := out) (x := x) hP hX rfl rfl hl (by rw [hn0]; exact Nat.zero_le _) (mk_new rfl) rfl rfl rfl (fun q h1 h2 h3 => by match q with | 0 => exact absurd rfl h2 | 1 => exact absurd rfl h3 | 2 => exact absurd rfl h1 | _ + 3 => rfl)) (by simp [lenN]) hd hK
def slEnc (s : List UInt8) (i b n : Nat) : List (Nat × SV) := [(9, .c (.i .i64 (i : Int))), (8, .c (.i .i64 (s.length : Int))), (5, .c (.i .i64 (n : Int))), (4, .c (.i .u32 (b : Int))), (3, .c (.p 0 0)), (0, .c (.s s))]
def slEnc2 : List (Nat × SV) := [(3, .c (.p 0 0))]
theorem encode_w (s : List UInt8) (hs : s.length ≤ 10000000) (w : World) : Calls Tryz.prog 19 #[.string ⟨s.toArray⟩] w fun e w' => e = .returned (.string ⟨(encB s).toArray⟩) ∧ Below w.heap.size w w' := by
  refine calls_of_Run Tryz.func19 rfl kp19 (S := Non) (ρ := fun _ => reOf 0) (en := []) [.c (.s s)] Tryz.ntmps19 (At.nil _ _ _) (by simp [SV.wf, SC.wf]) (by simp) ?_
  intro C hC hP hk
  have hctr := enC0_ok hP
  have hn0 : C.n0 = 0 := by rw [hC]; rfl
  have fin : ∀ l en, encB s = l → Fin C res19 (.c (.s l)) en := fun l en hl => by subst hl; exact Fin_cx (v := .c (.s (encB s))) hC hres19 fun ρ w' hw _ _ => ⟨rfl, by have := hw.up; rw [hC] at this; exact this.to_below⟩
  (refine VT_ok hctr (rs := res19) true 300 _ _ _ ?_; simp (config := { maxSteps := 1000000 }) only [VT, f00, f01, opG_t, opG_f, putG_t, putG_f, VC, appL, repZ, mkFs, newSl, resS, teS, resV, opK, putK, storeK, softS, eqC, eqCs, callS, moveS, loadS, nilS, binV, binS, unS, convS, faS, fldS, iaS, ixS, slS, lenS, buildS, fillS, extS, ifS, capsS, boundS, strLen, minS, maxS, pickS, plainS, oneS, onesS, cellsS, ev, evs, getS, ofVal, takeN, takeAt, layN, nthS, setN, snoc, lenN, unw, memN, trimS, TE.sv, argS, cxOf, lays, ↓reduceIte, reduceCtorEq, Value.oneCell', Nat.reduceEqDiff, Nat.reduceAdd, Nat.reduceLT, Nat.reduceBEq, Nat.reduceSub, Nat.reduceLeDiff, e00, e01, e02, e03, e04, e05, e06, e07, e08, e09, e10, e11, e12, e13, e14, e15, e16, e17, e18, e19, e20, e21, e22, e23, e24, e25, e26, e27, e28, e29, e30, e31, e32, e33, e34, cE, cOE, hcs, hap, killE, deadOf, rwE, cD, cO, consD, gdS, eqB, newC, mkV, storeC, firstN, snocAll, appAll, dropN, repN, putSl, slAt, allL, lvC, softC, ckD, ckO, hcallC, wfC, wfL, wfE, wfV, hP, hk, res19, kp19, enC0])
  refine Run_nilrowG true (en' := [bldE (.v (.pointer none)) (.rw 1 0)]) (sl' := slEnc s 0 0 0) (5, 0, rowP 1 0 0) rfl (fun _ => ⟨rfl, .inr ⟨rfl, rfl, rfl⟩⟩) (fun _ => u8d) ?_ ?_ ?_
  · refine ⟨⟨rfl, rfl, fun ρ h => ?_, ?_⟩, trivial⟩
    · have h : (ρ 1).nl = some none := h
      simp only [bldE, dens, List.map_cons, List.map_nil, SC.den, rwOf_off h]
    · intro y hy
      simp only [bldE, List.mem_cons, List.not_mem_nil, or_false] at hy
      rcases hy with rfl | rfl
      · trivial
      · show 1 < _; simp [lenN]
  · refine ⟨⟨⟨_, rfl, fun ρ h => rfl⟩, ?_⟩, ⟨⟨_, rfl, fun ρ h => rfl⟩, ?_⟩, ⟨⟨_, rfl, fun ρ h => rfl⟩, ?_⟩, ⟨⟨_, rfl, fun ρ h => rfl⟩, ?_⟩, ⟨⟨_, rfl, fun ρ h => rfl⟩, ?_⟩, ⟨⟨_, rfl, fun ρ h => rfl⟩, ?_⟩, trivial⟩
    all_goals simp [SV.wf, SC.wf, lenN]
  refine Run_loopP (ι := { y : Nat × Nat × Nat × List UInt8 // y.1 ≤ s.length ∧ y.2.1 < 4294967296 ∧ y.2.2.1 < 6 ∧ y.2.2.2.length ≤ 2 * y.1 ∧ encGo (s.drop y.1) y.2.1 y.2.2.1 y.2.2.2 = encGo s 0 0 [] }) (fun y => slEnc s y.1.1 y.1.2.1 y.1.2.2.1) (fun y => enDec y.1.2.2.2) (fun y => s.length - y.1.1) ⟨(0, 0, 0, []), Nat.zero_le _, by decide, by decide, Nat.le_refl _, rfl⟩ (sub_mk ⟨rfl, rfl, rfl, rfl, rfl, rfl, trivial⟩) rfl ?_
  rintro ⟨⟨j, b, n, out⟩, hj, hb, hn, ho, hall⟩ D dP dS dw dn dr dk ddf dPan dRet hX hJ
  have hP0 := hP; have hk0 := hk; have hctr0 := hctr
  have hP : D.P = Tryz.prog := by rw [dP]; exact hP0
  have hk : D.kp = kp19 := by rw [dk]; exact hk0
  have hctr : CtrOk D enC0 := enC0_ok hP
  simp only at hj hb hn ho hall
  show Run D _ _ (slEnc s j b n) (enDec out)
  by_cases hjn : j < s.length
  · have q1 : decide ((j : Int) < (s.length : Int)) = true := decide_eq_true (by omega)
    have p0 : (0 : Int) ≤ (j : Int) := by omega
    have p1 : (j : Int) < (s.length : Int) := by omega
    have p3 : IntKind.i64.wrap ((j : Int) + 1) = ((j + 1 : Nat) : Int) := by rw [IntWalk.i64_in _ (by omega)]; rfl
    obtain ⟨x, hx⟩ : ∃ x, s[j]? = some x := ⟨_, List.getElem?_eq_getElem hjn⟩
    have hgd : s.getD j 0 = x := by rw [List.getD_eq_getElem?_getD, hx]; rfl
    have hdr : s.drop j = x :: s.drop (j + 1) := by
      rw [List.drop_eq_getElem_cons hjn]; congr 1
      exact (List.getElem?_eq_some_iff.1 hx).2
    rw [hdr, encGo] at hall
    have hxl := lt8 x
    obtain ⟨B, hB⟩ : ∃ B, (b * 256 % 4294967296) ||| x.toNat = B := ⟨_, rfl⟩
    have hBl : B < 4294967296 := by rw [← hB, or8 _ _ hxl]; omega
    rw [hB] at hall
    have f1 : orZ .u32 (shlZ .u32 (b : Int) 8) (IntKind.u32.wrap (x.toNat : Int)) = (B : Int) := by
      rw [show (8 : Int) = ((8 : Nat) : Int) from rfl, shlN _ _ (by decide), u32i (by omega), orN (Nat.mod_lt _ (by decide)) (by omega), ← hB]
    have f2 : IntKind.i64.wrap ((n : Int) + 8) = ((n + 8 : Nat) : Int) := by rw [IntWalk.i64_in _ (by omega)]; omega
    have hbx := bX_or out
    obtain ⟨bx, hbx0⟩ : ∃ bx, bX out = bx := ⟨_, rfl⟩
    (refine VT_ok hctr (rs := res19) true 300 _ _ _ ?_; simp (config := { maxSteps := 1000000 }) only [VT, f00, f01, opG_t, opG_f, putG_t, putG_f, VC, appL, repZ, mkFs, newSl, resS, teS, resV, opK, putK, storeK, softS, eqC, eqCs, callS, moveS, loadS, nilS, binV, binS, unS, convS, faS, fldS, iaS, ixS, slS, lenS, buildS, fillS, extS, ifS, capsS, boundS, strLen, minS, maxS, pickS, plainS, oneS, onesS, cellsS, ev, evs, getS, ofVal, takeN, takeAt, layN, nthS, setN, snoc, lenN, unw, memN, trimS, TE.sv, argS, cxOf, lays, ↓reduceIte, reduceCtorEq, Value.oneCell', Nat.reduceEqDiff, Nat.reduceAdd, Nat.reduceLT, Nat.reduceBEq, Nat.reduceSub, Nat.reduceLeDiff, e00, e01, e02, e03, e04, e05, e06, e07, e08, e09, e10, e11, e12, e13, e14, e15, e16, e17, e18, e19, e20, e21, e22, e23, e24, e25, e26, e27, e28, e29, e30, e31, e32, e33, e34, cE, cOE, hcs, hap, killE, deadOf, rwE, cD, cO, consD, gdS, eqB, newC, mkV, storeC, firstN, snocAll, appAll, dropN, repN, putSl, slAt, allL, lvC, softC, ckD, ckO, hcallC, wfC, wfL, wfE, wfV, hP, hk, res19, kp19, enC0, slEnc, enDec, bldE, rwB, rwE, hbx0, q1, p0, p1, Int.toNat_natCast, hgd, f1, f2])
    refine ⟨by decide, ?_⟩
    rw [← hbx0]
    refine Run_loopP (ι := { y : Nat × List UInt8 × Nat // y.1 < 6 * y.2.2 + 6 ∧ y.1 ≤ 13 ∧ encEm y.2.2 B y.1 y.2.1 = encEm 3 B (n + 8) out ∧ y.2.1.length * 6 + y.1 = out.length * 6 + n + 8 }) (fun y => slEnc s j B y.1.1) (fun y => enDec y.1.2.1) (fun y => y.1.1) ⟨(n + 8, out, 3), by simp only; omega, by simp only; omega, rfl, by simp only; omega⟩ (sub_mk ⟨rfl, rfl, rfl, rfl, rfl, rfl, trivial⟩) rfl ?_
    rintro ⟨⟨m, o2, f⟩, hm, hm13, hem, hlen⟩ D2 dP2 dS2 dw2 dn2 dr2 dk2 ddf2 dPan2 dRet2 hX2 hJ2
    have hP1 := hP; have hk1 := hk; have hctr1 := hctr
    have hP : D2.P = Tryz.prog := by rw [dP2]; exact hP1
    have hk : D2.kp = kp19 := by rw [dk2]; exact hk1
    have hctr : CtrOk D2 enC0 := enC0_ok hP
    have hm : m < 6 * f + 6 := hm
    have hm13 : m ≤ 13 := hm13
    have hem : encEm f B m o2 = encEm 3 B (n + 8) out := hem
    have hlen : o2.length * 6 + m = out.length * 6 + n + 8 := hlen
    show Run D2 _ _ (slEnc s j B m) (enDec o2)
    have hbx2 := bX_or o2
    obtain ⟨bx2, hbx20⟩ : ∃ bx, bX o2 = bx := ⟨_, rfl⟩
    by_cases hm6 : 6 ≤ m
    · have c1 : decide ((6 : Int) ≤ (m : Int)) = true := decide_eq_true (by omega)
      have f3 : IntKind.i64.wrap ((m : Int) - 6) = ((m - 6 : Nat) : Int) := by rw [IntWalk.i64_in _ (by omega)]; omega
      have f4 : shrZ .u32 (B : Int) ((m - 6 : Nat) : Int) = ((B / 2 ^ (m - 6) : Nat) : Int) := shrN _ _ (by omega)
      obtain ⟨q, hq⟩ : ∃ q, B / 2 ^ (m - 6) = q := ⟨_, rfl⟩
      rw [hq] at f4
      have hql : q < 4294967296 := by rw [← hq]; exact Nat.lt_of_le_of_lt (Nat.div_le_self _ _) hBl
      have f5 : andZ .u32 (q : Int) 63 = ((q % 64 : Nat) : Int) := by rw [show (63 : Int) = ((63 : Nat) : Int) from rfl, andN hql (by decide), and63]
      obtain ⟨k, hk64⟩ : ∃ k, q % 64 = k := ⟨_, rfl⟩
      rw [hk64] at f5
      have hkl : k < 64 := by rw [← hk64]; omega
      have f6 : (0 : Int) ≤ ((m - 6 : Nat) : Int) := by omega
      have f7 : (0 : Int) ≤ (k : Int) := by omega
      have hgl : List.getD [65, 66, 67, 68, 69, 70, 71, 72, 73, 74, 75, 76, 77, 78, 79, 80, 81, 82, 83, 84, 85, 86, 87, 88, 89, 90, 97, 98, 99, 100, 101, 102, 103, 104, 105, 106, 107, 108, 109, 110, 111, 112, 113, 114, 115, 116, 117, 118, 119, 120, 121, 122, 48, 49, 50, 51, 52, 53, 54, 55, 56, 57, 43, 47] k (0 : UInt8) = letB k := rfl
      obtain ⟨f', rfl⟩ : ∃ f', f = f' + 1 := ⟨f - 1, by omega⟩
      have hem2 : encEm f' B (m - 6) (o2 ++ [letB k]) = encEm 3 B (n + 8) out := by
        rw [← hem, encEm, if_pos hm6, hq, hk64]
      (refine VT_ok hctr (rs := res19) true 300 _ _ _ ?_; simp (config := { maxSteps := 1000000 }) only [VT, f00, f01, opG_t, opG_f, putG_t, putG_f, VC, appL, repZ, mkFs, newSl, resS, teS, resV, opK, putK, storeK, softS, eqC, eqCs, callS, moveS, loadS, nilS, binV, binS, unS, convS, faS, fldS, iaS, ixS, slS, lenS, buildS, fillS, extS, ifS, capsS, boundS, strLen, minS, maxS, pickS, plainS, oneS, onesS, cellsS, ev, evs, getS, ofVal, takeN, takeAt, layN, nthS, setN, snoc, lenN, unw, memN, trimS, TE.sv, argS, cxOf, lays, ↓reduceIte, reduceCtorEq, Value.oneCell', Nat.reduceEqDiff, Nat.reduceAdd, Nat.reduceLT, Nat.reduceBEq, Nat.reduceSub, Nat.reduceLeDiff, e00, e01, e02, e03, e04, e05, e06, e07, e08, e09, e10, e11, e12, e13, e14, e15, e16, e17, e18, e19, e20, e21, e22, e23, e24, e25, e26, e27, e28, e29, e30, e31, e32, e33, e34, cE, cOE, hcs, hap, killE, deadOf, rwE, cD, cO, consD, gdS, eqB, newC, mkV, storeC, firstN, snocAll, appAll, dropN, repN, putSl, slAt, allL, lvC, softC, ckD, ckO, hcallC, wfC, wfL, wfE, wfV, hP, hk, res19, kp19, enC0, slEnc, enDec, bldE, rwB, rwE, hbx20, c1, f3, f4, f5, f6, f7, Int.toNat_natCast, hgl])
      refine ⟨by show (k : Int) < ((64 : Nat) : Int); omega, ?_⟩
      refine Run_wb (out := o2) (x := letB k) (X := bx2) hP (by rw [dn2, dn, hn0]) (by rw [← hbx20]; exact hbx2) (by omega) rfl (by simp) ?_
      (refine VT_ok hctr (rs := res19) true 300 _ _ _ ?_; simp (config := { maxSteps := 1000000 }) only [VT, f00, f01, opG_t, opG_f, putG_t, putG_f, VC, appL, repZ, mkFs, newSl, resS, teS, resV, opK, putK, storeK, softS, eqC, eqCs, callS, moveS, loadS, nilS, binV, binS, unS, convS, faS, fldS, iaS, ixS, slS, lenS, buildS, fillS, extS, ifS, capsS, boundS, strLen, minS, maxS, pickS, plainS, oneS, onesS, cellsS, ev, evs, getS, ofVal, takeN, takeAt, layN, nthS, setN, snoc, lenN, unw, memN, trimS, TE.sv, argS, cxOf, lays, ↓reduceIte, reduceCtorEq, Value.oneCell', Nat.reduceEqDiff, Nat.reduceAdd, Nat.reduceLT, Nat.reduceBEq, Nat.reduceSub, Nat.reduceLeDiff, e00, e01, e02, e03, e04, e05, e06, e07, e08, e09, e10, e11, e12, e13, e14, e15, e16, e17, e18, e19, e20, e21, e22, e23, e24, e25, e26, e27, e28, e29, e30, e31, e32, e33, e34, cE, cOE, hcs, hap, killE, deadOf, rwE, cD, cO, consD, gdS, eqB, newC, mkV, storeC, firstN, snocAll, appAll, dropN, repN, putSl, slAt, allL, lvC, softC, ckD, ckO, hcallC, wfC, wfL, wfE, wfV, hP, hk, res19, kp19, enC0, bldE, rwB, rwE, deadOf, f3])
      exact keepB (out := o2) (x := letB k) (slK := slEnc s j B (m - 6)) (by rw [dn2, dn, hn0]) (by
        refine ⟨⟨?_, _, rfl, fun ρ => rfl⟩, ⟨?_, _, rfl, fun ρ => rfl⟩, ⟨?_, _, rfl, fun ρ => rfl⟩, ⟨?_, _, rfl, fun ρ => rfl⟩, ⟨?_, _, rfl, fun ρ => rfl⟩, ⟨?_, _, rfl, fun ρ => rfl⟩, trivial⟩
        all_goals simp [SV.wf, SC.wf]) (hJ2 ⟨(m - 6, o2 ++ [letB k], f'), by simp only; omega, by simp only; omega, hem2, by simp only [List.length_append, List.length_cons, List.length_nil]; omega⟩ _ (by show m - 6 < m; omega) (fun d v h => h))
    · have c1 : decide ((6 : Int) ≤ (m : Int)) = false := decide_eq_false (by omega)
      have hdone : encEm f B m o2 = (m, o2) := by
        cases f with
        | zero => rfl
        | succ f => rw [encEm, if_neg hm6]
      rw [← hem, hdone] at hall
      (refine VT_ok hctr (rs := res19) true 300 _ _ _ ?_; simp (config := { maxSteps := 1000000 }) only [VT, f00, f01, opG_t, opG_f, putG_t, putG_f, VC, appL, repZ, mkFs, newSl, resS, teS, resV, opK, putK, storeK, softS, eqC, eqCs, callS, moveS, loadS, nilS, binV, binS, unS, convS, faS, fldS, iaS, ixS, slS, lenS, buildS, fillS, extS, ifS, capsS, boundS, strLen, minS, maxS, pickS, plainS, oneS, onesS, cellsS, ev, evs, getS, ofVal, takeN, takeAt, layN, nthS, setN, snoc, lenN, unw, memN, trimS, TE.sv, argS, cxOf, lays, ↓reduceIte, reduceCtorEq, Value.oneCell', Nat.reduceEqDiff, Nat.reduceAdd, Nat.reduceLT, Nat.reduceBEq, Nat.reduceSub, Nat.reduceLeDiff, e00, e01, e02, e03, e04, e05, e06, e07, e08, e09, e10, e11, e12, e13, e14, e15, e16, e17, e18, e19, e20, e21, e22, e23, e24, e25, e26, e27, e28, e29, e30, e31, e32, e33, e34, cE, cOE, hcs, hap, killE, deadOf, rwE, cD, cO, consD, gdS, eqB, newC, mkV, storeC, firstN, snocAll, appAll, dropN, repN, putSl, slAt, allL, lvC, softC, ckD, ckO, hcallC, wfC, wfL, wfE, wfV, hP, hk, res19, kp19, enC0, slEnc, enDec, bldE, rwB, rwE, hbx20, c1])
      refine hX2 rfl rfl ?_
      have hP := hP1; have hk := hk1; have hctr := hctr1
      (refine VT_ok hctr (rs := res19) true 300 _ _ _ ?_; simp (config := { maxSteps := 1000000 }) only [VT, f00, f01, opG_t, opG_f, putG_t, putG_f, VC, appL, repZ, mkFs, newSl, resS, teS, resV, opK, putK, storeK, softS, eqC, eqCs, callS, moveS, loadS, nilS, binV, binS, unS, convS, faS, fldS, iaS, ixS, slS, lenS, buildS, fillS, extS, ifS, capsS, boundS, strLen, minS, maxS, pickS, plainS, oneS, onesS, cellsS, ev, evs, getS, ofVal, takeN, takeAt, layN, nthS, setN, snoc, lenN, unw, memN, trimS, TE.sv, argS, cxOf, lays, ↓reduceIte, reduceCtorEq, Value.oneCell', Nat.reduceEqDiff, Nat.reduceAdd, Nat.reduceLT, Nat.reduceBEq, Nat.reduceSub, Nat.reduceLeDiff, e00, e01, e02, e03, e04, e05, e06, e07, e08, e09, e10, e11, e12, e13, e14, e15, e16, e17, e18, e19, e20, e21, e22, e23, e24, e25, e26, e27, e28, e29, e30, e31, e32, e33, e34, cE, cOE, hcs, hap, killE, deadOf, rwE, cD, cO, consD, gdS, eqB, newC, mkV, storeC, firstN, snocAll, appAll, dropN, repN, putSl, slAt, allL, lvC, softC, ckD, ckO, hcallC, wfC, wfL, wfE, wfV, hP, hk, res19, kp19, enC0, slEnc, enDec, bldE, rwB, rwE, hbx20, p3])
      have hJ' := fun s' (hs : sub (slEnc s (j + 1) B m) s') => hJ ⟨(j + 1, B, m, o2), by simp only; omega, hBl, by simp only; omega, by simp only; omega, hall⟩ s' (by show s.length - (j + 1) < s.length - j; omega) hs
      simp only [enDec, hbx20] at hJ'
      exact hJ' _ (sub_mk ⟨rfl, rfl, rfl, rfl, rfl, rfl, trivial⟩)
  · have hjn' : j = s.length := by omega
    have q1 : decide ((j : Int) < (s.length : Int)) = false := decide_eq_false (by omega)
    have hbx := bX_or out
    obtain ⟨bx, hbx0⟩ : ∃ bx, bX out = bx := ⟨_, rfl⟩
    rw [List.drop_of_length_le (by omega), encGo] at hall
    (refine VT_ok hctr (rs := res19) true 300 _ _ _ ?_; simp (config := { maxSteps := 1000000 }) only [VT, f00, f01, opG_t, opG_f, putG_t, putG_f, VC, appL, repZ, mkFs, newSl, resS, teS, resV, opK, putK, storeK, softS, eqC, eqCs, callS, moveS, loadS, nilS, binV, binS, unS, convS, faS, fldS, iaS, ixS, slS, lenS, buildS, fillS, extS, ifS, capsS, boundS, strLen, minS, maxS, pickS, plainS, oneS, onesS, cellsS, ev, evs, getS, ofVal, takeN, takeAt, layN, nthS, setN, snoc, lenN, unw, memN, trimS, TE.sv, argS, cxOf, lays, ↓reduceIte, reduceCtorEq, Value.oneCell', Nat.reduceEqDiff, Nat.reduceAdd, Nat.reduceLT, Nat.reduceBEq, Nat.reduceSub, Nat.reduceLeDiff, e00, e01, e02, e03, e04, e05, e06, e07, e08, e09, e10, e11, e12, e13, e14, e15, e16, e17, e18, e19, e20, e21, e22, e23, e24, e25, e26, e27, e28, e29, e30, e31, e32, e33, e34, cE, cOE, hcs, hap, killE, deadOf, rwE, cD, cO, consD, gdS, eqB, newC, mkV, storeC, firstN, snocAll, appAll, dropN, repN, putSl, slAt, allL, lvC, softC, ckD, ckO, hcallC, wfC, wfL, wfE, wfV, hP, hk, res19, kp19, enC0, slEnc, enDec, bldE, rwB, rwE, hbx0, q1])
    refine hX rfl rfl ?_
    have hP := hP0; have hk := hk0; have hctr := hctr0
    (refine VT_ok hctr (rs := res19) true 6 _ _ _ ?_; simp (config := { maxSteps := 1000000 }) only [VT, f00, f01, opG_t, opG_f, putG_t, putG_f, VC, appL, repZ, mkFs, newSl, resS, teS, resV, opK, putK, storeK, softS, eqC, eqCs, callS, moveS, loadS, nilS, binV, binS, unS, convS, faS, fldS, iaS, ixS, slS, lenS, buildS, fillS, extS, ifS, capsS, boundS, strLen, minS, maxS, pickS, plainS, oneS, onesS, cellsS, ev, evs, getS, ofVal, takeN, takeAt, layN, nthS, setN, snoc, lenN, unw, memN, trimS, TE.sv, argS, cxOf, lays, ↓reduceIte, reduceCtorEq, Value.oneCell', Nat.reduceEqDiff, Nat.reduceAdd, Nat.reduceLT, Nat.reduceBEq, Nat.reduceSub, Nat.reduceLeDiff, e00, e01, e02, e03, e04, e05, e06, e07, e08, e09, e10, e11, e12, e13, e14, e15, e16, e17, e18, e19, e20, e21, e22, e23, e24, e25, e26, e27, e28, e29, e30, e31, e32, e33, e34, cE, cOE, hcs, hap, killE, deadOf, rwE, cD, cO, consD, gdS, eqB, newC, mkV, storeC, firstN, snocAll, appAll, dropN, repN, putSl, slAt, allL, lvC, softC, ckD, ckO, hcallC, wfC, wfL, wfE, wfV, hP, hk, res19, kp19, enC0, slEnc, enDec, bldE, rwB, rwE, hbx0, q1])
    obtain ⟨E, hE⟩ : ∃ E, encLast (b, n, out) = E := ⟨_, rfl⟩
    have hEl : E.length ≤ 20000001 := by
      rw [← hE, encLast]; split
      · simp only [List.length_append, List.length_cons, List.length_nil]; omega
      · simp only; omega
    have hEB : encB s = E ++ List.replicate ((4 - E.length % 4) % 4) 61 := by
      rw [encB, ← hall, hE]
    refine Run_join (κ := Unit) (fun _ => slEnc2) (fun _ => enDec E) (fun _ => ?_) (fun hJ => ?_)
    · (refine VT_ok hctr (rs := res19) true 300 _ _ _ ?_; simp (config := { maxSteps := 1000000 }) only [VT, f00, f01, opG_t, opG_f, putG_t, putG_f, VC, appL, repZ, mkFs, newSl, resS, teS, resV, opK, putK, storeK, softS, eqC, eqCs, callS, moveS, loadS, nilS, binV, binS, unS, convS, faS, fldS, iaS, ixS, slS, lenS, buildS, fillS, extS, ifS, capsS, boundS, strLen, minS, maxS, pickS, plainS, oneS, onesS, cellsS, ev, evs, getS, ofVal, takeN, takeAt, layN, nthS, setN, snoc, lenN, unw, memN, trimS, TE.sv, argS, cxOf, lays, ↓reduceIte, reduceCtorEq, Value.oneCell', Nat.reduceEqDiff, Nat.reduceAdd, Nat.reduceLT, Nat.reduceBEq, Nat.reduceSub, Nat.reduceLeDiff, e00, e01, e02, e03, e04, e05, e06, e07, e08, e09, e10, e11, e12, e13, e14, e15, e16, e17, e18, e19, e20, e21, e22, e23, e24, e25, e26, e27, e28, e29, e30, e31, e32, e33, e34, cE, cOE, hcs, hap, killE, deadOf, rwE, cD, cO, consD, gdS, eqB, newC, mkV, storeC, firstN, snocAll, appAll, dropN, repN, putSl, slAt, allL, lvC, softC, ckD, ckO, hcallC, wfC, wfL, wfE, wfV, hP, hk, res19, kp19, enC0, slEnc2])
      refine Run_loopP (ι := { y : Nat // y ≤ (4 - E.length % 4) % 4 }) (fun y => slEnc2) (fun y => enDec (E ++ List.replicate y.1 61)) (fun y => 4 - y.1) ⟨0, Nat.zero_le _⟩ (sub_mk ⟨rfl, trivial⟩) (by simp) ?_
      rintro ⟨t, ht⟩ D dP dS dw dn dr dk ddf dPan dRet hX hJ
      have hP0 := hP; have hk0 := hk; have hctr0 := hctr
      have hP : D.P = Tryz.prog := by rw [dP]; exact hP0
      have hk : D.kp = kp19 := by rw [dk]; exact hk0
      have hctr : CtrOk D enC0 := enC0_ok hP
      have ht : t ≤ (4 - E.length % 4) % 4 := ht
      show Run D _ _ slEnc2 (enDec (E ++ List.replicate t 61))
      obtain ⟨F, hF⟩ : ∃ F, E ++ List.replicate t (61 : UInt8) = F := ⟨_, rfl⟩
      have hFl : F.length = E.length + t := by rw [← hF]; simp
      rw [hF]
      have hbx := bX_or F
      obtain ⟨bx, hbx0⟩ : ∃ bx, bX F = bx := ⟨_, rfl⟩
      by_cases h4 : F.length % 4 = 0
      · have c2 : ((F.length : Int).tmod 4 != 0) = false := by
          rw [Int.tmod_eq_emod_of_nonneg (by omega), bne_eq_false_iff_eq]; omega
        (refine VT_ok hctr (rs := res19) true 300 _ _ _ ?_; simp (config := { maxSteps := 1000000 }) only [VT, f00, f01, opG_t, opG_f, putG_t, putG_f, VC, appL, repZ, mkFs, newSl, resS, teS, resV, opK, putK, storeK, softS, eqC, eqCs, callS, moveS, loadS, nilS, binV, binS, unS, convS, faS, fldS, iaS, ixS, slS, lenS, buildS, fillS, extS, ifS, capsS, boundS, strLen, minS, maxS, pickS, plainS, oneS, onesS, cellsS, ev, evs, getS, ofVal, takeN, takeAt, layN, nthS, setN, snoc, lenN, unw, memN, trimS, TE.sv, argS, cxOf, lays, ↓reduceIte, reduceCtorEq, Value.oneCell', Nat.reduceEqDiff, Nat.reduceAdd, Nat.reduceLT, Nat.reduceBEq, Nat.reduceSub, Nat.reduceLeDiff, e00, e01, e02, e03, e04, e05, e06, e07, e08, e09, e10, e11, e12, e13, e14, e15, e16, e17, e18, e19, e20, e21, e22, e23, e24, e25, e26, e27, e28, e29, e30, e31, e32, e33, e34, cE, cOE, hcs, hap, killE, deadOf, rwE, cD, cO, consD, gdS, eqB, newC, mkV, storeC, firstN, snocAll, appAll, dropN, repN, putSl, slAt, allL, lvC, softC, ckD, ckO, hcallC, wfC, wfL, wfE, wfV, hP, hk, res19, kp19, enC0, slEnc2, enDec, bldE, rwB, rwE, rowBLen, hbx0, c2])
        refine ⟨by decide, ?_⟩
        refine hX rfl rfl ?_
        have hP := hP0; have hk := hk0; have hctr := hctr0
        (refine VT_ok hctr (rs := res19) true 300 _ _ _ ?_; simp (config := { maxSteps := 1000000 }) only [VT, f00, f01, opG_t, opG_f, putG_t, putG_f, VC, appL, repZ, mkFs, newSl, resS, teS, resV, opK, putK, storeK, softS, eqC, eqCs, callS, moveS, loadS, nilS, binV, binS, unS, convS, faS, fldS, iaS, ixS, slS, lenS, buildS, fillS, extS, ifS, capsS, boundS, strLen, minS, maxS, pickS, plainS, oneS, onesS, cellsS, ev, evs, getS, ofVal, takeN, takeAt, layN, nthS, setN, snoc, lenN, unw, memN, trimS, TE.sv, argS, cxOf, lays, ↓reduceIte, reduceCtorEq, Value.oneCell', Nat.reduceEqDiff, Nat.reduceAdd, Nat.reduceLT, Nat.reduceBEq, Nat.reduceSub, Nat.reduceLeDiff, e00, e01, e02, e03, e04, e05, e06, e07, e08, e09, e10, e11, e12, e13, e14, e15, e16, e17, e18, e19, e20, e21, e22, e23, e24, e25, e26, e27, e28, e29, e30, e31, e32, e33, e34, cE, cOE, hcs, hap, killE, deadOf, rwE, cD, cO, consD, gdS, eqB, newC, mkV, storeC, firstN, snocAll, appAll, dropN, repN, putSl, slAt, allL, lvC, softC, ckD, ckO, hcallC, wfC, wfL, wfE, wfV, hP, hk, res19, kp19, enC0, slEnc2, enDec, bldE, rwB, rwE, hbx0])
        refine Run_bstr (X := bx) (l := F) (c := 0) (d := 1) hP (by rw [hC]; rfl) hn0 (by rw [← hbx0]; exact hbx) rfl rfl rfl rfl (by simp) ?_
        (refine VT_ok hctr (rs := res19) true 300 _ _ _ ?_; simp (config := { maxSteps := 1000000 }) only [VT, f00, f01, opG_t, opG_f, putG_t, putG_f, VC, appL, repZ, mkFs, newSl, resS, teS, resV, opK, putK, storeK, softS, eqC, eqCs, callS, moveS, loadS, nilS, binV, binS, unS, convS, faS, fldS, iaS, ixS, slS, lenS, buildS, fillS, extS, ifS, capsS, boundS, strLen, minS, maxS, pickS, plainS, oneS, onesS, cellsS, ev, evs, getS, ofVal, takeN, takeAt, layN, nthS, setN, snoc, lenN, unw, memN, trimS, TE.sv, argS, cxOf, lays, ↓reduceIte, reduceCtorEq, Value.oneCell', Nat.reduceEqDiff, Nat.reduceAdd, Nat.reduceLT, Nat.reduceBEq, Nat.reduceSub, Nat.reduceLeDiff, e00, e01, e02, e03, e04, e05, e06, e07, e08, e09, e10, e11, e12, e13, e14, e15, e16, e17, e18, e19, e20, e21, e22, e23, e24, e25, e26, e27, e28, e29, e30, e31, e32, e33, e34, cE, cOE, hcs, hap, killE, deadOf, rwE, cD, cO, consD, gdS, eqB, newC, mkV, storeC, firstN, snocAll, appAll, dropN, repN, putSl, slAt, allL, lvC, softC, ckD, ckO, hcallC, wfC, wfL, wfE, wfV, hP, hk, res19, kp19, enC0])
        refine fin _ _ ?_
        have hte : t = (4 - E.length % 4) % 4 := by omega
        rw [hEB, ← hF, hte]
      · have c2 : ((F.length : Int).tmod 4 != 0) = true := by
          rw [Int.tmod_eq_emod_of_nonneg (by omega), bne_iff_ne]; omega
        (refine VT_ok hctr (rs := res19) true 300 _ _ _ ?_; simp (config := { maxSteps := 1000000 }) only [VT, f00, f01, opG_t, opG_f, putG_t, putG_f, VC, appL, repZ, mkFs, newSl, resS, teS, resV, opK, putK, storeK, softS, eqC, eqCs, callS, moveS, loadS, nilS, binV, binS, unS, convS, faS, fldS, iaS, ixS, slS, lenS, buildS, fillS, extS, ifS, capsS, boundS, strLen, minS, maxS, pickS, plainS, oneS, onesS, cellsS, ev, evs, getS, ofVal, takeN, takeAt, layN, nthS, setN, snoc, lenN, unw, memN, trimS, TE.sv, argS, cxOf, lays, ↓reduceIte, reduceCtorEq, Value.oneCell', Nat.reduceEqDiff, Nat.reduceAdd, Nat.reduceLT, Nat.reduceBEq, Nat.reduceSub, Nat.reduceLeDiff, e00, e01, e02, e03, e04, e05, e06, e07, e08, e09, e10, e11, e12, e13, e14, e15, e16, e17, e18, e19, e20, e21, e22, e23, e24, e25, e26, e27, e28, e29, e30, e31, e32, e33, e34, cE, cOE, hcs, hap, killE, deadOf, rwE, cD, cO, consD, gdS, eqB, newC, mkV, storeC, firstN, snocAll, appAll, dropN, repN, putSl, slAt, allL, lvC, softC, ckD, ckO, hcallC, wfC, wfL, wfE, wfV, hP, hk, res19, kp19, enC0, slEnc2, enDec, bldE, rwB, rwE, rowBLen, hbx0, c2])
        refine ⟨by decide, ?_⟩
        refine Run_wb (out := F) (x := 61) (X := bx) hP (by rw [dn, hn0]) (by rw [← hbx0]; exact hbx) (by omega) rfl (by simp) ?_
        (refine VT_ok hctr (rs := res19) true 300 _ _ _ ?_; simp (config := { maxSteps := 1000000 }) only [VT, f00, f01, opG_t, opG_f, putG_t, putG_f, VC, appL, repZ, mkFs, newSl, resS, teS, resV, opK, putK, storeK, softS, eqC, eqCs, callS, moveS, loadS, nilS, binV, binS, unS, convS, faS, fldS, iaS, ixS, slS, lenS, buildS, fillS, extS, ifS, capsS, boundS, strLen, minS, maxS, pickS, plainS, oneS, onesS, cellsS, ev, evs, getS, ofVal, takeN, takeAt, layN, nthS, setN, snoc, lenN, unw, memN, trimS, TE.sv, argS, cxOf, lays, ↓reduceIte, reduceCtorEq, Value.oneCell', Nat.reduceEqDiff, Nat.reduceAdd, Nat.reduceLT, Nat.reduceBEq, Nat.reduceSub, Nat.reduceLeDiff, e00, e01, e02, e03, e04, e05, e06, e07, e08, e09, e10, e11, e12, e13, e14, e15, e16, e17, e18, e19, e20, e21, e22, e23, e24, e25, e26, e27, e28, e29, e30, e31, e32, e33, e34, cE, cOE, hcs, hap, killE, deadOf, rwE, cD, cO, consD, gdS, eqB, newC, mkV, storeC, firstN, snocAll, appAll, dropN, repN, putSl, slAt, allL, lvC, softC, ckD, ckO, hcallC, wfC, wfL, wfE, wfV, hP, hk, res19, kp19, enC0, bldE, rwB, rwE, deadOf])
        exact keepB (out := F) (x := 61) (slK := slEnc2) (by rw [dn, hn0]) (by
          refine ⟨⟨?_, _, rfl, fun ρ => rfl⟩, trivial⟩
          all_goals simp [SV.wf, SC.wf]) (by
          have := hJ ⟨t + 1, by omega⟩ _ (by show 4 - (t + 1) < 4 - t; omega) (fun d v h => h)
          simp only at this
          rw [List.replicate_succ', ← List.append_assoc, hF] at this
          exact this)
    · by_cases hn0' : 0 < n
      · have c1 : decide ((0 : Int) < (n : Int)) = true := decide_eq_true (by omega)
        have f3 : IntKind.i64.wrap (6 - (n : Int)) = ((6 - n : Nat) : Int) := by rw [IntWalk.i64_in _ (by omega)]; omega
        have f4 : shlZ .u32 (b : Int) ((6 - n : Nat) : Int) = ((b * 2 ^ (6 - n) % 4294967296 : Nat) : Int) := shlN _ _ (by omega)
        obtain ⟨q, hq⟩ : ∃ q, b * 2 ^ (6 - n) % 4294967296 = q := ⟨_, rfl⟩
        rw [hq] at f4
        have hql : q < 4294967296 := by rw [← hq]; exact Nat.mod_lt _ (by decide)
        have f5 : andZ .u32 (q : Int) 63 = ((q % 64 : Nat) : Int) := by rw [show (63 : Int) = ((63 : Nat) : Int) from rfl, andN hql (by decide), and63]
        obtain ⟨k, hk64⟩ : ∃ k, q % 64 = k := ⟨_, rfl⟩
        rw [hk64] at f5
        have hkl : k < 64 := by rw [← hk64]; omega
        have f6 : (0 : Int) ≤ ((6 - n : Nat) : Int) := by omega
        have f7 : (0 : Int) ≤ (k : Int) := by omega
        have hgl : List.getD [65, 66, 67, 68, 69, 70, 71, 72, 73, 74, 75, 76, 77, 78, 79, 80, 81, 82, 83, 84, 85, 86, 87, 88, 89, 90, 97, 98, 99, 100, 101, 102, 103, 104, 105, 106, 107, 108, 109, 110, 111, 112, 113, 114, 115, 116, 117, 118, 119, 120, 121, 122, 48, 49, 50, 51, 52, 53, 54, 55, 56, 57, 43, 47] k (0 : UInt8) = letB k := rfl
        have hEE : out ++ [letB k] = E := by rw [← hE, encLast, if_pos hn0']; simp only; rw [hq, hk64]
        (refine VT_ok hctr (rs := res19) true 300 _ _ _ ?_; simp (config := { maxSteps := 1000000 }) only [VT, f00, f01, opG_t, opG_f, putG_t, putG_f, VC, appL, repZ, mkFs, newSl, resS, teS, resV, opK, putK, storeK, softS, eqC, eqCs, callS, moveS, loadS, nilS, binV, binS, unS, convS, faS, fldS, iaS, ixS, slS, lenS, buildS, fillS, extS, ifS, capsS, boundS, strLen, minS, maxS, pickS, plainS, oneS, onesS, cellsS, ev, evs, getS, ofVal, takeN, takeAt, layN, nthS, setN, snoc, lenN, unw, memN, trimS, TE.sv, argS, cxOf, lays, ↓reduceIte, reduceCtorEq, Value.oneCell', Nat.reduceEqDiff, Nat.reduceAdd, Nat.reduceLT, Nat.reduceBEq, Nat.reduceSub, Nat.reduceLeDiff, e00, e01, e02, e03, e04, e05, e06, e07, e08, e09, e10, e11, e12, e13, e14, e15, e16, e17, e18, e19, e20, e21, e22, e23, e24, e25, e26, e27, e28, e29, e30, e31, e32, e33, e34, cE, cOE, hcs, hap, killE, deadOf, rwE, cD, cO, consD, gdS, eqB, newC, mkV, storeC, firstN, snocAll, appAll, dropN, repN, putSl, slAt, allL, lvC, softC, ckD, ckO, hcallC, wfC, wfL, wfE, wfV, hP, hk, res19, kp19, enC0, slEnc, enDec, bldE, rwB, rwE, hbx0, c1, f3, f4, f5, f6, f7, Int.toNat_natCast, hgl])
        refine ⟨by show (k : Int) < ((64 : Nat) : Int); omega, ?_⟩
        refine Run_wb (out := out) (x := letB k) (X := bx) hP hn0 (by rw [← hbx0]; exact hbx) (by omega) rfl (by simp) ?_
        (refine VT_ok hctr (rs := res19) true 1 _ _ _ ?_; simp (config := { maxSteps := 1000000 }) only [VT, f00, f01, opG_t, opG_f, putG_t, putG_f, VC, appL, repZ, mkFs, newSl, resS, teS, resV, opK, putK, storeK, softS, eqC, eqCs, callS, moveS, loadS, nilS, binV, binS, unS, convS, faS, fldS, iaS, ixS, slS, lenS, buildS, fillS, extS, ifS, capsS, boundS, strLen, minS, maxS, pickS, plainS, oneS, onesS, cellsS, ev, evs, getS, ofVal, takeN, takeAt, layN, nthS, setN, snoc, lenN, unw, memN, trimS, TE.sv, argS, cxOf, lays, ↓reduceIte, reduceCtorEq, Value.oneCell', Nat.reduceEqDiff, Nat.reduceAdd, Nat.reduceLT, Nat.reduceBEq, Nat.reduceSub, Nat.reduceLeDiff, e00, e01, e02, e03, e04, e05, e06, e07, e08, e09, e10, e11, e12, e13, e14, e15, e16, e17, e18, e19, e20, e21, e22, e23, e24, e25, e26, e27, e28, e29, e30, e31, e32, e33, e34, cE, cOE, hcs, hap, killE, deadOf, rwE, cD, cO, consD, gdS, eqB, newC, mkV, storeC, firstN, snocAll, appAll, dropN, repN, putSl, slAt, allL, lvC, softC, ckD, ckO, hcallC, wfC, wfL, wfE, wfV, hP, hk, res19, kp19, enC0, bldE, rwB, rwE, deadOf, f3])
        exact keepB (out := out) (x := letB k) (slK := slEnc2) hn0 (by
          refine ⟨⟨?_, _, rfl, fun ρ => rfl⟩, trivial⟩
          all_goals simp [SV.wf, SC.wf]) (by rw [hEE]; exact hJ () _ (fun d v h => h))
      · have c1 : decide ((0 : Int) < (n : Int)) = false := decide_eq_false (by omega)
        have hEE : out = E := by rw [← hE, encLast, if_neg hn0']
        (refine VT_ok hctr (rs := res19) true 2 _ _ _ ?_; simp (config := { maxSteps := 1000000 }) only [VT, f00, f01, opG_t, opG_f, putG_t, putG_f, VC, appL, repZ, mkFs, newSl, resS, teS, resV, opK, putK, storeK, softS, eqC, eqCs, callS, moveS, loadS, nilS, binV, binS, unS, convS, faS, fldS, iaS, ixS, slS, lenS, buildS, fillS, extS, ifS, capsS, boundS, strLen, minS, maxS, pickS, plainS, oneS, onesS, cellsS, ev, evs, getS, ofVal, takeN, takeAt, layN, nthS, setN, snoc, lenN, unw, memN, trimS, TE.sv, argS, cxOf, lays, ↓reduceIte, reduceCtorEq, Value.oneCell', Nat.reduceEqDiff, Nat.reduceAdd, Nat.reduceLT, Nat.reduceBEq, Nat.reduceSub, Nat.reduceLeDiff, e00, e01, e02, e03, e04, e05, e06, e07, e08, e09, e10, e11, e12, e13, e14, e15, e16, e17, e18, e19, e20, e21, e22, e23, e24, e25, e26, e27, e28, e29, e30, e31, e32, e33, e34, cE, cOE, hcs, hap, killE, deadOf, rwE, cD, cO, consD, gdS, eqB, newC, mkV, storeC, firstN, snocAll, appAll, dropN, repN, putSl, slAt, allL, lvC, softC, ckD, ckO, hcallC, wfC, wfL, wfE, wfV, hP, hk, res19, kp19, enC0, slEnc, enDec, bldE, rwB, rwE, hbx0, c1])
        subst hEE
        have hJ' := fun s' (hs : sub slEnc2 s') => hJ () s' hs
        simp only [enDec, hbx0] at hJ'
        refine hJ' _ ?_
        exact sub_mk ⟨rfl, trivial⟩
end Go.Proofs.YtlaagebdbcmckaaGreatDoor
