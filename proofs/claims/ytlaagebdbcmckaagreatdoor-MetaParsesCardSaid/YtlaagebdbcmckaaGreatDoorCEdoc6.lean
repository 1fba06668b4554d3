/- The document's Encode (ambryref03), walked. Printed by gen_edoc6.py. -/
import Derived.Test.YtlaagebdbcmckaaGreatDoorCEdoc5
import Derived.Test.YtlaagebdbcmckaaGreatDoorCSxMake
import Derived.Lib.BufferRead
namespace Go.Proofs.YtlaagebdbcmckaaGreatDoor
set_option linter.unusedSimpArgs false
set_option linter.unusedVariables false
set_option linter.unusedSimpArgs false
set_option linter.unusedVariables false
set_option maxHeartbeats 8000000
open Go.RowKit
set_option maxRecDepth 100000
def rowLet : List SV → Option (Prop × SV)
  | [.c (.i .u32 n)] => some (0 ≤ n ∧ n < 64, .c (.i .u8 ((letB n.toNat).toNat : Int)))
  | _ => none
def dK0 : Ctr := fun f _ xs => match f with
  | 90 => rowLet xs
  | _ => none
theorem dK0_ok {C : Cx} (hP : C.P = Tryz.prog) : CtrOk C dK0 := by
  intro f en xs p v h hp ρ w hup hHp hHo hinj hwf
  unfold dK0 at h
  split at h
  · rw [hP]
    refine ⟨fun args w => Tryz.call90 args w, ?_⟩
    unfold rowLet at h
    split at h <;> simp only [Option.some.injEq, Prod.mk.injEq, reduceCtorEq] at h
    rename_i n
    obtain ⟨rfl, rfl⟩ := h
    have := dletter_w n.toNat (by omega) w
    rw [show ((n.toNat : Nat) : Int) = n by omega] at this
    exact ⟨trivial, this⟩
  · cases h
def slDe (s : List UInt8) (i n : Nat) : List (Nat × SV) := [(4, .c (.i .i64 (i : Int))), (3, .c (.rw 0 n)), (0, .c (.s s))]
theorem infoU8c : (Tryz.prog.info? 5).map (fun i => (i.zero, i.size, i.bytes)) = some (some (.int .u8 0), 1, 1) := by kernel_rfl
section
variable {C : Cx} {nt : Nat} {sl : List (Nat × SV)} {en : List EN} {k : List KI} {dst : Option Nat} {ty : TypeId} {pos : String} {af : Array Edge} {all r : List Oper} {gd : Option (Nat × Bool)}
theorem bytes_rw {x : Operand} {s t : TypeId} {d : Nat} {l : List UInt8} (hs : C.P.underlying s = some (.slice 5)) (hu : C.P.underlying t = some .string) (he : C.P.underlying 5 = some (.int .u8)) (hx : ev sl x = some (.c (.rw d l.length))) (hd' : zD en d = some (rwB l))
    (hg : gdT all sl gd = true) (hd : ∀ d, dst = some d → d < nt)
    (hK : Run C (.ops all r :: k) nt (jN dst (.c (.s l)) sl) en) :
    Run C (.ops all (⟨dst, .convert s t x, ty, pos, af, gd⟩ :: r) :: k) nt sl en := by
  refine Run_hop _ _ hg (Nat.le_refl _) ?_ hd hK
  intro ρ a w hr
  obtain ⟨x1, x2⟩ := hr.ev_ok _ _ hx
  refine ⟨ρ, w, ?_, fun _ _ => rfl, trivial, hr.hw⟩
  have x1 : a.eval x = rwOf (ρ d) l.length := x1
  have hld := x2
  obtain ⟨_, hL, hO⟩ := hr.hw.ho d _ _ _ hld hd'
  rcases hO with ⟨h1, h2, _⟩ | ⟨h1, h2, _⟩
  · rw [rwOf_on h1] at x1
    have hb := run_convert_bytes_back (P := C.P) w s t 5 ⟨(ρ d).blk, 0, none⟩ (ρ d).cap l hs he hu (fun j hj => by
      have hc : (bytesC l)[j]? = some (.i .u8 ((l[j]).toNat : Int)) := by simp [bytesC, hj]
      have := hr.hw.hp.cellAt hld hd' hc
      rw [h2] at this
      rw [Go.WideShapes.add_plain]
      exact this)
    simp only [execOp, x1, Sem.run_bind, hb, Result.andThen, Sem.run_pure, SV.den, SC.den]
  · have h0 : l = [] := List.eq_nil_of_length_eq_zero h2
    subst h0
    rw [rwOf_off h1] at x1
    have hb := Lib.run_convert_nil_bytes (P := C.P) w s t 5 0 hs he hu
    have x1 : a.eval x = .slice none 0 0 := x1
    simp only [execOp, x1, Sem.run_bind, hb, Result.andThen, Sem.run_pure, SV.den, SC.den]
end
theorem enc4_app {D : Cx} {nt : Nat} {sl : List (Nat × SV)} {k : List KI} {dst : Option Nat} {ty : TypeId} {pos : String} {af : Array Edge} {all r : List Oper} {x y : Operand} {l : List UInt8} {a b c d : UInt8} (hP : D.P = Tryz.prog) (hn0 : D.n0 = 0) (hl : l.length ≤ 10000000000)
    (hx : ev sl x = some (.c (.rw 0 l.length))) (hy : ev sl y = some (.c (.sl 1 0 4 4))) (hd : ∀ d, dst = some d → d < nt)
    (hK : ∀ E, Run D (.ops all r :: k) nt (jN dst (.c (.rw 2 (l.length + 4))) sl) [E, ⟨(5, 0, whole), bytesC [a, b, c, d], true⟩, rwB (l ++ [a, b, c, d])]) :
    Run D (.ops all (⟨dst, .call ⟨.builtin .append, #[x, y], #[73, 73]⟩, ty, pos, af, none⟩ :: r) :: k) nt sl [rwB l, ⟨(5, 0, whole), bytesC [a, b, c, d], true⟩] := by
  obtain ⟨i0, hi', hz0, hz1, hz2⟩ := info_parts infoU8c
  refine append_op (X := .rw 0 l.length) (Y := .sl 1 0 4 4) (o := some 0) (n := l.length) (m := 4) (z := 1) (bts := 1) (cells := bytesC l) (news := bytesC [a, b, c, d]) (e := 5) (by rw [hP]; exact Tryz.underlying73) (by rw [hP]; exact hi') hz0 hz1 hz2 rfl Nat.zero_lt_one u8d (.some rfl) hx hy (src_sl (c := 1) (o := 0) (L := 4) rfl rfl) rfl rfl (fun pr => bytesC_wf _ _) (by omega) (by omega) (by rw [hn0]; exact Nat.zero_le _) rfl hd ?_
  have hr : rwE 5 1 (l.length + 4) (bytesC l ++ bytesC [a, b, c, d]) = rwB (l ++ [a, b, c, d]) := by
    rw [bytesC_app]; simp [rwB]
  rw [hr]
  exact hK _
theorem dencode_w (s : List UInt8) (hs : s.length ≤ 1000000000) (w : World) : Calls Tryz.prog 69 #[.string ⟨s.toArray⟩] w fun e w' => e = .returned (.string ⟨(encR s).toArray⟩) ∧ Below w.heap.size w w' := by
  refine calls_of_Run Tryz.func69 rfl kp69 (S := Non) (ρ := fun _ => reOf 0) (en := []) [.c (.s s)] Tryz.ntmps69 (At.nil _ _ _) (by simp [SV.wf, SC.wf]) (by simp) ?_
  intro C hC hP hk
  have hctr := dK0_ok hP
  have hn0 : C.n0 = 0 := by rw [hC]; rfl
  have fin : ∀ l en, encR s = l → Fin C res69 (.c (.s l)) en := fun l en hl => by subst hl; exact Fin_cx (v := .c (.s (encR s))) hC hres69 fun ρ w' hw _ _ => ⟨rfl, by have := hw.up; rw [hC] at this; exact this.to_below⟩
  (refine VT_ok hctr (rs := res69) true 300 _ _ _ ?_; simp (maxSteps := 1000000) only [VT, jf, jg, jZ, ja, jd, je, VC, qA, qB, qC, qD, qE, qF, qG, qH, qI, qJ, qK, qL, qM, qN, qO, qP, qQ, qR, qS, qT, qU, qV, qW, qX, qY, qZ, qe, qf, qg, qh, qj, qk, ql, qm, qn, qo, qp, qq, q0t, qu, qv, ev, qw, qy, qz, zA, zB, zC, zD, zE, zF, zG, zH, zI, zJ, TE.sv, zK, zL, zM, ↓reduceIte, reduceCtorEq, Value.oneCell', Nat.reduceEqDiff, Nat.reduceAdd, Nat.reduceLT, Nat.reduceBEq, Nat.reduceSub, Nat.reduceLeDiff, zP, zQ, zR, zS, zT, zU, zV, zW, zX, zY, zZ, za, zb, zc, zd, ze, zf, zg, zh, zi, zj, zk, zl, zm, zn, zo, zp, zq, zr, zt, zu, zw, zx, zy, zz, cE, jA, jB, hap, killE, deadOf, rwE, cD, cO, jC, jD, jE, jF, jG, jH, jI, jJ, jK, jL, jM, jN, jO, jP, jQ, jR, jS, jT, jU, jV, jW, jX, jY, hP, hk, res69, kp69, dK0, rowLet, slDe, rwB, rwE, Int.toNat_natCast, Nat.reduceMul, Nat.reduceLeDiff, if_true, Int.reduceToNat, Nat.reduceAdd, Nat.mul_one])
  refine Run_nilrowG true (en' := []) (sl' := slDe s 0 0) (5, 0, rowP 1 0 0) rfl (fun _ => ⟨rfl, .inr ⟨rfl, rfl, rfl⟩⟩) (fun _ => u8d) trivial ?_ ?_
  · refine ⟨⟨⟨_, rfl, fun ρ h => rfl⟩, ?_⟩, ⟨⟨_, rfl, fun ρ h => ?_⟩, ?_⟩, ⟨⟨_, rfl, fun ρ h => rfl⟩, ?_⟩, trivial⟩
    rotate_left
    · have h : (ρ 0).nl = some none := h
      simp only [SV.den, SC.den, rwOf_off h]
    all_goals simp [SV.wf, SC.wf, zG]
  refine Run_loopP (ι := { y : Nat × List UInt8 // y.1 ≤ s.length + 2 ∧ y.2.length ≤ 4 * y.1 ∧ y.2 ++ encR (s.drop y.1) = encR s }) (fun y => slDe s y.1.1 y.1.2.length) (fun y => [rwB y.1.2]) (fun y => s.length + 3 - y.1.1) ⟨(0, []), by simp only; omega, by simp, rfl⟩ (sub_mk ⟨rfl, rfl, rfl, trivial⟩) rfl ?_
  rintro ⟨⟨i, out⟩, hi, hol, hall⟩ D dP dS dw dn dr dk ddf dPan dRet hX hJ
  have hP0 := hP; have hk0 := hk; have hctr0 := hctr
  have hP : D.P = Tryz.prog := by rw [dP]; exact hP0
  have hk : D.kp = kp69 := by rw [dk]; exact hk0
  have hctr : CtrOk D dK0 := dK0_ok hP
  simp only at hi hol hall
  show Run D _ _ (slDe s i out.length) [rwB out]
  by_cases hin : i < s.length
  · have q1 : decide ((i : Int) < (s.length : Int)) = true := decide_eq_true (by omega)
    obtain ⟨x, hx⟩ : ∃ x, s[i]? = some x := ⟨_, List.getElem?_eq_getElem hin⟩
    have hgx : s.getD i 0 = x := by rw [List.getD_eq_getElem?_getD, hx]; rfl
    have hdx : s.drop i = x :: s.drop (i + 1) := by
      rw [List.drop_eq_getElem_cons hin]; congr 1
      exact (List.getElem?_eq_some_iff.1 hx).2
    have p0 : (0 : Int) ≤ (i : Int) := by omega
    have p1 : (i : Int) < (s.length : Int) := by omega
    have p3 : IntKind.i64.wrap ((i : Int) + 3) = ((i + 3 : Nat) : Int) := by rw [IntWalk.i64_in _ (by omega)]; rfl
    have pl : IntKind.i64.wrap ((s.length : Int) - (i : Int)) = ((s.length - i : Nat) : Int) := by rw [IntWalk.i64_in _ (by omega)]; omega
    have hx8 := lt8 x
    have f1 : shlZ .u32 (IntKind.u32.wrap (x.toNat : Int)) 16 = ((x.toNat * 65536 : Nat) : Int) := by
      rw [u32i (by omega), show (16 : Int) = ((16 : Nat) : Int) from rfl, shlN _ _ (by decide)]; congr 1; omega
    -- the letters of a number
    have lets : ∀ N : Nat, N < 16777216 → ((shrZ .u32 (N : Int) 18 = ((N / 262144 : Nat) : Int)) ∧ (andZ .u32 (shrZ .u32 (N : Int) 12) 63 = ((N / 4096 % 64 : Nat) : Int)) ∧ (andZ .u32 (shrZ .u32 (N : Int) 6) 63 = ((N / 64 % 64 : Nat) : Int)) ∧ (andZ .u32 (N : Int) 63 = ((N % 64 : Nat) : Int))) := fun N hN => by
      have zh : shrZ .u32 (N : Int) 18 = ((N / 262144 : Nat) : Int) := by rw [show (18 : Int) = ((18 : Nat) : Int) from rfl, shrN _ _ (by decide)]
      have zb : shrZ .u32 (N : Int) 12 = ((N / 4096 : Nat) : Int) := by rw [show (12 : Int) = ((12 : Nat) : Int) from rfl, shrN _ _ (by decide)]
      have e6 : shrZ .u32 (N : Int) 6 = ((N / 64 : Nat) : Int) := by rw [show (6 : Int) = ((6 : Nat) : Int) from rfl, shrN _ _ (by decide)]
      refine ⟨zh, ?_, ?_, ?_⟩
      · rw [zb, show (63 : Int) = ((63 : Nat) : Int) from rfl, andN (by omega) (by decide), and63]
      · rw [e6, show (63 : Int) = ((63 : Nat) : Int) from rfl, andN (by omega) (by decide), and63]
      · rw [show (63 : Int) = ((63 : Nat) : Int) from rfl, andN (by omega) (by decide), and63]
    have nx : ∀ a b c d : UInt8, (out ++ [a, b, c, d]) ++ encR (s.drop (i + 3)) = encR s → ∀ E s', sub [(4, .c (.i .i64 ((i + 3 : Nat) : Int))), (3, .c (.rw 2 (out.length + 4))), (0, .c (.s s))] s' → Run D [] 70 s' [E, ⟨(5, 0, whole), bytesC [a, b, c, d], true⟩, rwB (out ++ [a, b, c, d])] := fun a b c d h E s' hs => by
      refine Run_less hs ?_
      have hJ' := hJ ⟨(i + 3, out ++ [a, b, c, d]), by simp only; omega, by simp; omega, h⟩ _ (by show s.length + 3 - (i + 3) < s.length + 3 - i; omega) (fun d v h => h)
      refine Run_keepN (f := fun _ => 2) (enK := [rwB (out ++ [a, b, c, d])]) (slK := slDe s (i + 3) (out ++ [a, b, c, d]).length) ⟨fun q hq => absurd hq (by rw [dn, hn0]; exact Nat.not_lt_zero _), by rw [dn, hn0]; exact Nat.zero_le _⟩ (fun p q hp hq _ => ?_) ?_ ?_ hJ'
      · have hp : p < 1 := hp
        have hq : q < 1 := hq
        omega
      · refine ⟨⟨_, rfl, fun ρ => ?_, bytesC_wf _ _⟩, trivial⟩
        show dens _ (bytesC (out ++ [a, b, c, d])) = dens ρ (bytesC (out ++ [a, b, c, d]))
        rw [bytesC_den, bytesC_den]
      · refine ⟨⟨?_, _, rfl, fun ρ => rfl⟩, ⟨?_, _, rfl, fun ρ => ?_⟩, ⟨?_, _, rfl, fun ρ => rfl⟩, trivial⟩
        all_goals simp [SV.wf, SC.wf, SV.den, SC.den]
    by_cases hl1 : s.length - i = 1
    · have c1 : decide ((1 : Int) < ((s.length - i : Nat) : Int)) = false := decide_eq_false (by omega)
      have c2 : decide ((2 : Int) < ((s.length - i : Nat) : Int)) = false := decide_eq_false (by omega)
      have c3 : decide (((s.length - i : Nat) : Int) < 3) = true := decide_eq_true (by omega)
      have c4 : decide (((s.length - i : Nat) : Int) < 2) = true := decide_eq_true (by omega)
      have hd : s.drop i = [x] := by rw [hdx, List.drop_of_length_le (by omega)]
      have hd3 : s.drop (i + 3) = [] := List.drop_of_length_le (by omega)
      obtain ⟨l1, l2, l3, l4⟩ := lets (x.toNat * 65536) (by omega)
      have m1 : (x.toNat * 65536) / 262144 = x.toNat / 4 := by omega
      have m2 : (x.toNat * 65536) / 4096 % 64 = x.toNat % 4 * 16 := by omega
      have m3 : (x.toNat * 65536) / 64 % 64 = 0 := by omega
      have m4 : (x.toNat * 65536) % 64 = 0 := by omega
      obtain ⟨N, hN⟩ : ∃ N, x.toNat * 65536 = N := ⟨_, rfl⟩
      rw [hN] at l1 l2 l3 l4 m1 m2 m3 m4 f1
      have b1 : (0 : Int) ≤ ((N / 262144 : Nat) : Int) := by omega
      have b2 : ((N / 262144 : Nat) : Int) < 64 := by omega
      have b3 : (0 : Int) ≤ ((N / 4096 % 64 : Nat) : Int) := by omega
      have b4 : ((N / 4096 % 64 : Nat) : Int) < 64 := by omega
      have b5 : (0 : Int) ≤ ((N / 64 % 64 : Nat) : Int) := by omega
      have b6 : ((N / 64 % 64 : Nat) : Int) < 64 := by omega
      have b7 : (0 : Int) ≤ ((N % 64 : Nat) : Int) := by omega
      have b8 : ((N % 64 : Nat) : Int) < 64 := by omega
      (refine VT_ok hctr (rs := res69) true 300 _ _ _ ?_; simp (maxSteps := 1000000) only [VT, jf, jg, jZ, ja, jd, je, VC, qA, qB, qC, qD, qE, qF, qG, qH, qI, qJ, qK, qL, qM, qN, qO, qP, qQ, qR, qS, qT, qU, qV, qW, qX, qY, qZ, qe, qf, qg, qh, qj, qk, ql, qm, qn, qo, qp, qq, q0t, qu, qv, ev, qw, qy, qz, zA, zB, zC, zD, zE, zF, zG, zH, zI, zJ, TE.sv, zK, zL, zM, ↓reduceIte, reduceCtorEq, Value.oneCell', Nat.reduceEqDiff, Nat.reduceAdd, Nat.reduceLT, Nat.reduceBEq, Nat.reduceSub, Nat.reduceLeDiff, zP, zQ, zR, zS, zT, zU, zV, zW, zX, zY, zZ, za, zb, zc, zd, ze, zf, zg, zh, zi, zj, zk, zl, zm, zn, zo, zp, zq, zr, zt, zu, zw, zx, zy, zz, cE, jA, jB, hap, killE, deadOf, rwE, cD, cO, jC, jD, jE, jF, jG, jH, jI, jJ, jK, jL, jM, jN, jO, jP, jQ, jR, jS, jT, jU, jV, jW, jX, jY, hP, hk, res69, kp69, dK0, rowLet, slDe, rwB, rwE, Int.toNat_natCast, Nat.reduceMul, Nat.reduceLeDiff, if_true, Int.reduceToNat, Nat.reduceAdd, Nat.mul_one, q1, p0, p1, p3, pl, hgx, c1, c2, c3, c4, f1, l1, l2, l3, l4, b1, b2, b3, b4, b5, b6, b7, b8])
      repeat (refine ⟨by first | decide | omega, ?_⟩)
      refine enc4_app (l := out) (a := letB (N / 262144)) (b := letB (N / 4096 % 64)) (c := 61) (d := 61) hP (by rw [dn, hn0]) (by omega) rfl rfl (by simp) fun E => ?_
      (refine VT_ok hctr (rs := res69) true 300 _ _ _ ?_; simp (maxSteps := 1000000) only [VT, jf, jg, jZ, ja, jd, je, VC, qA, qB, qC, qD, qE, qF, qG, qH, qI, qJ, qK, qL, qM, qN, qO, qP, qQ, qR, qS, qT, qU, qV, qW, qX, qY, qZ, qe, qf, qg, qh, qj, qk, ql, qm, qn, qo, qp, qq, q0t, qu, qv, ev, qw, qy, qz, zA, zB, zC, zD, zE, zF, zG, zH, zI, zJ, TE.sv, zK, zL, zM, ↓reduceIte, reduceCtorEq, Value.oneCell', Nat.reduceEqDiff, Nat.reduceAdd, Nat.reduceLT, Nat.reduceBEq, Nat.reduceSub, Nat.reduceLeDiff, zP, zQ, zR, zS, zT, zU, zV, zW, zX, zY, zZ, za, zb, zc, zd, ze, zf, zg, zh, zi, zj, zk, zl, zm, zn, zo, zp, zq, zr, zt, zu, zw, zx, zy, zz, cE, jA, jB, hap, killE, deadOf, rwE, cD, cO, jC, jD, jE, jF, jG, jH, jI, jJ, jK, jL, jM, jN, jO, jP, jQ, jR, jS, jT, jU, jV, jW, jX, jY, hP, hk, res69, kp69, dK0, rowLet, slDe, rwB, rwE, Int.toNat_natCast, Nat.reduceMul, Nat.reduceLeDiff, if_true, Int.reduceToNat, Nat.reduceAdd, Nat.mul_one, p3])
      exact nx _ _ _ _ (by rw [← hall, hd, hd3, encR, encR, m1, m2]; simp) E _ (sub_mk ⟨rfl, rfl, rfl, trivial⟩)
    obtain ⟨y, hy⟩ : ∃ y, s[i + 1]? = some y := ⟨_, List.getElem?_eq_getElem (by omega)⟩
    have hgy : s.getD (i + 1) 0 = y := by rw [List.getD_eq_getElem?_getD, hy]; rfl
    have hdy : s.drop (i + 1) = y :: s.drop (i + 2) := by
      rw [List.drop_eq_getElem_cons (by omega)]; congr 1
      exact (List.getElem?_eq_some_iff.1 hy).2
    have hy8 := lt8 y
    have c1 : decide ((1 : Int) < ((s.length - i : Nat) : Int)) = true := decide_eq_true (by omega)
    have p4 : IntKind.i64.wrap ((i : Int) + 1) = ((i + 1 : Nat) : Int) := by rw [IntWalk.i64_in _ (by omega)]; rfl
    have p5 : (0 : Int) ≤ ((i + 1 : Nat) : Int) := by omega
    have p6 : ((i + 1 : Nat) : Int) < (s.length : Int) := by omega
    have f2 : orZ .u32 ((x.toNat * 65536 : Nat) : Int) (shlZ .u32 (IntKind.u32.wrap (y.toNat : Int)) 8) = ((x.toNat * 65536 + y.toNat * 256 : Nat) : Int) := by
      rw [u32i (by omega), show (8 : Int) = ((8 : Nat) : Int) from rfl, shlN _ _ (by decide), orN (by omega) (Nat.mod_lt _ (by decide))]
      have h := Nat.shiftLeft_add_eq_or_of_lt (i := 16) (b := y.toNat * 256) (by omega) x.toNat
      rw [Nat.shiftLeft_eq] at h
      simp only [Nat.reducePow] at h
      rw [show y.toNat * 2 ^ 8 % 4294967296 = y.toNat * 256 by omega, ← h]
    by_cases hl2 : s.length - i = 2
    · have c2 : decide ((2 : Int) < ((s.length - i : Nat) : Int)) = false := decide_eq_false (by omega)
      have c3 : decide (((s.length - i : Nat) : Int) < 3) = true := decide_eq_true (by omega)
      have c4 : decide (((s.length - i : Nat) : Int) < 2) = false := decide_eq_false (by omega)
      have hd : s.drop i = [x, y] := by rw [hdx, hdy, List.drop_of_length_le (by omega)]
      have hd3 : s.drop (i + 3) = [] := List.drop_of_length_le (by omega)
      obtain ⟨l1, l2, l3, l4⟩ := lets (x.toNat * 65536 + y.toNat * 256) (by omega)
      have m1 : (x.toNat * 65536 + y.toNat * 256) / 262144 = x.toNat / 4 := by omega
      have m2 : (x.toNat * 65536 + y.toNat * 256) / 4096 % 64 = x.toNat % 4 * 16 + y.toNat / 16 := by omega
      have m3 : (x.toNat * 65536 + y.toNat * 256) / 64 % 64 = y.toNat % 16 * 4 := by omega
      have m4 : (x.toNat * 65536 + y.toNat * 256) % 64 = 0 := by omega
      obtain ⟨N, hN⟩ : ∃ N, x.toNat * 65536 + y.toNat * 256 = N := ⟨_, rfl⟩
      rw [hN] at l1 l2 l3 l4 m1 m2 m3 m4 f2
      have b1 : (0 : Int) ≤ ((N / 262144 : Nat) : Int) := by omega
      have b2 : ((N / 262144 : Nat) : Int) < 64 := by omega
      have b3 : (0 : Int) ≤ ((N / 4096 % 64 : Nat) : Int) := by omega
      have b4 : ((N / 4096 % 64 : Nat) : Int) < 64 := by omega
      have b5 : (0 : Int) ≤ ((N / 64 % 64 : Nat) : Int) := by omega
      have b6 : ((N / 64 % 64 : Nat) : Int) < 64 := by omega
      have b7 : (0 : Int) ≤ ((N % 64 : Nat) : Int) := by omega
      have b8 : ((N % 64 : Nat) : Int) < 64 := by omega
      (refine VT_ok hctr (rs := res69) true 300 _ _ _ ?_; simp (maxSteps := 1000000) only [VT, jf, jg, jZ, ja, jd, je, VC, qA, qB, qC, qD, qE, qF, qG, qH, qI, qJ, qK, qL, qM, qN, qO, qP, qQ, qR, qS, qT, qU, qV, qW, qX, qY, qZ, qe, qf, qg, qh, qj, qk, ql, qm, qn, qo, qp, qq, q0t, qu, qv, ev, qw, qy, qz, zA, zB, zC, zD, zE, zF, zG, zH, zI, zJ, TE.sv, zK, zL, zM, ↓reduceIte, reduceCtorEq, Value.oneCell', Nat.reduceEqDiff, Nat.reduceAdd, Nat.reduceLT, Nat.reduceBEq, Nat.reduceSub, Nat.reduceLeDiff, zP, zQ, zR, zS, zT, zU, zV, zW, zX, zY, zZ, za, zb, zc, zd, ze, zf, zg, zh, zi, zj, zk, zl, zm, zn, zo, zp, zq, zr, zt, zu, zw, zx, zy, zz, cE, jA, jB, hap, killE, deadOf, rwE, cD, cO, jC, jD, jE, jF, jG, jH, jI, jJ, jK, jL, jM, jN, jO, jP, jQ, jR, jS, jT, jU, jV, jW, jX, jY, hP, hk, res69, kp69, dK0, rowLet, slDe, rwB, rwE, Int.toNat_natCast, Nat.reduceMul, Nat.reduceLeDiff, if_true, Int.reduceToNat, Nat.reduceAdd, Nat.mul_one, q1, p0, p1, p3, pl, hgx, c1, c2, c3, c4, f1, f2, p4, p5, p6, hgy, l1, l2, l3, l4, b1, b2, b3, b4, b5, b6, b7, b8])
      repeat (refine ⟨by first | decide | omega, ?_⟩)
      refine enc4_app (l := out) (a := letB (N / 262144)) (b := letB (N / 4096 % 64)) (c := letB (N / 64 % 64)) (d := 61) hP (by rw [dn, hn0]) (by omega) rfl rfl (by simp) fun E => ?_
      (refine VT_ok hctr (rs := res69) true 300 _ _ _ ?_; simp (maxSteps := 1000000) only [VT, jf, jg, jZ, ja, jd, je, VC, qA, qB, qC, qD, qE, qF, qG, qH, qI, qJ, qK, qL, qM, qN, qO, qP, qQ, qR, qS, qT, qU, qV, qW, qX, qY, qZ, qe, qf, qg, qh, qj, qk, ql, qm, qn, qo, qp, qq, q0t, qu, qv, ev, qw, qy, qz, zA, zB, zC, zD, zE, zF, zG, zH, zI, zJ, TE.sv, zK, zL, zM, ↓reduceIte, reduceCtorEq, Value.oneCell', Nat.reduceEqDiff, Nat.reduceAdd, Nat.reduceLT, Nat.reduceBEq, Nat.reduceSub, Nat.reduceLeDiff, zP, zQ, zR, zS, zT, zU, zV, zW, zX, zY, zZ, za, zb, zc, zd, ze, zf, zg, zh, zi, zj, zk, zl, zm, zn, zo, zp, zq, zr, zt, zu, zw, zx, zy, zz, cE, jA, jB, hap, killE, deadOf, rwE, cD, cO, jC, jD, jE, jF, jG, jH, jI, jJ, jK, jL, jM, jN, jO, jP, jQ, jR, jS, jT, jU, jV, jW, jX, jY, hP, hk, res69, kp69, dK0, rowLet, slDe, rwB, rwE, Int.toNat_natCast, Nat.reduceMul, Nat.reduceLeDiff, if_true, Int.reduceToNat, Nat.reduceAdd, Nat.mul_one, p3])
      exact nx _ _ _ _ (by rw [← hall, hd, hd3, encR, encR, m1, m2, m3]; simp) E _ (sub_mk ⟨rfl, rfl, rfl, trivial⟩)
    obtain ⟨z, hz⟩ : ∃ z, s[i + 2]? = some z := ⟨_, List.getElem?_eq_getElem (by omega)⟩
    have hgz : s.getD (i + 2) 0 = z := by rw [List.getD_eq_getElem?_getD, hz]; rfl
    have hdz : s.drop (i + 2) = z :: s.drop (i + 3) := by
      rw [List.drop_eq_getElem_cons (by omega)]; congr 1
      exact (List.getElem?_eq_some_iff.1 hz).2
    have hz8 := lt8 z
    have c2 : decide ((2 : Int) < ((s.length - i : Nat) : Int)) = true := decide_eq_true (by omega)
    have c3 : decide (((s.length - i : Nat) : Int) < 3) = false := decide_eq_false (by omega)
    have c4 : decide (((s.length - i : Nat) : Int) < 2) = false := decide_eq_false (by omega)
    have p7 : IntKind.i64.wrap ((i : Int) + 2) = ((i + 2 : Nat) : Int) := by rw [IntWalk.i64_in _ (by omega)]; rfl
    have p8 : (0 : Int) ≤ ((i + 2 : Nat) : Int) := by omega
    have p9 : ((i + 2 : Nat) : Int) < (s.length : Int) := by omega
    have f3 : orZ .u32 ((x.toNat * 65536 + y.toNat * 256 : Nat) : Int) (IntKind.u32.wrap (z.toNat : Int)) = ((x.toNat * 65536 + y.toNat * 256 + z.toNat : Nat) : Int) := by
      rw [u32i (by omega), orN (by omega) (by omega)]
      have h := Nat.shiftLeft_add_eq_or_of_lt (i := 8) (b := z.toNat) (by omega) (x.toNat * 256 + y.toNat)
      rw [Nat.shiftLeft_eq] at h
      rw [show x.toNat * 65536 + y.toNat * 256 = (x.toNat * 256 + y.toNat) * 2 ^ 8 by omega, ← h]
    have hd : s.drop i = x :: y :: z :: s.drop (i + 3) := by rw [hdx, hdy, hdz]
    obtain ⟨l1, l2, l3, l4⟩ := lets (x.toNat * 65536 + y.toNat * 256 + z.toNat) (by omega)
    have m1 : (x.toNat * 65536 + y.toNat * 256 + z.toNat) / 262144 = x.toNat / 4 := by omega
    have m2 : (x.toNat * 65536 + y.toNat * 256 + z.toNat) / 4096 % 64 = x.toNat % 4 * 16 + y.toNat / 16 := by omega
    have m3 : (x.toNat * 65536 + y.toNat * 256 + z.toNat) / 64 % 64 = y.toNat % 16 * 4 + z.toNat / 64 := by omega
    have m4 : (x.toNat * 65536 + y.toNat * 256 + z.toNat) % 64 = z.toNat % 64 := by omega
    obtain ⟨N, hN⟩ : ∃ N, x.toNat * 65536 + y.toNat * 256 + z.toNat = N := ⟨_, rfl⟩
    rw [hN] at l1 l2 l3 l4 m1 m2 m3 m4 f3
    have b1 : (0 : Int) ≤ ((N / 262144 : Nat) : Int) := by omega
    have b2 : ((N / 262144 : Nat) : Int) < 64 := by omega
    have b3 : (0 : Int) ≤ ((N / 4096 % 64 : Nat) : Int) := by omega
    have b4 : ((N / 4096 % 64 : Nat) : Int) < 64 := by omega
    have b5 : (0 : Int) ≤ ((N / 64 % 64 : Nat) : Int) := by omega
    have b6 : ((N / 64 % 64 : Nat) : Int) < 64 := by omega
    have b7 : (0 : Int) ≤ ((N % 64 : Nat) : Int) := by omega
    have b8 : ((N % 64 : Nat) : Int) < 64 := by omega
    (refine VT_ok hctr (rs := res69) true 300 _ _ _ ?_; simp (maxSteps := 1000000) only [VT, jf, jg, jZ, ja, jd, je, VC, qA, qB, qC, qD, qE, qF, qG, qH, qI, qJ, qK, qL, qM, qN, qO, qP, qQ, qR, qS, qT, qU, qV, qW, qX, qY, qZ, qe, qf, qg, qh, qj, qk, ql, qm, qn, qo, qp, qq, q0t, qu, qv, ev, qw, qy, qz, zA, zB, zC, zD, zE, zF, zG, zH, zI, zJ, TE.sv, zK, zL, zM, ↓reduceIte, reduceCtorEq, Value.oneCell', Nat.reduceEqDiff, Nat.reduceAdd, Nat.reduceLT, Nat.reduceBEq, Nat.reduceSub, Nat.reduceLeDiff, zP, zQ, zR, zS, zT, zU, zV, zW, zX, zY, zZ, za, zb, zc, zd, ze, zf, zg, zh, zi, zj, zk, zl, zm, zn, zo, zp, zq, zr, zt, zu, zw, zx, zy, zz, cE, jA, jB, hap, killE, deadOf, rwE, cD, cO, jC, jD, jE, jF, jG, jH, jI, jJ, jK, jL, jM, jN, jO, jP, jQ, jR, jS, jT, jU, jV, jW, jX, jY, hP, hk, res69, kp69, dK0, rowLet, slDe, rwB, rwE, Int.toNat_natCast, Nat.reduceMul, Nat.reduceLeDiff, if_true, Int.reduceToNat, Nat.reduceAdd, Nat.mul_one, q1, p0, p1, p3, pl, hgx, c1, c2, c3, c4, f1, f2, f3, p4, p5, p6, p7, p8, p9, hgy, hgz, l1, l2, l3, l4, b1, b2, b3, b4, b5, b6, b7, b8])
    repeat (refine ⟨by first | decide | omega, ?_⟩)
    refine enc4_app (l := out) (a := letB (N / 262144)) (b := letB (N / 4096 % 64)) (c := letB (N / 64 % 64)) (d := letB (N % 64)) hP (by rw [dn, hn0]) (by omega) rfl rfl (by simp) fun E => ?_
    (refine VT_ok hctr (rs := res69) true 300 _ _ _ ?_; simp (maxSteps := 1000000) only [VT, jf, jg, jZ, ja, jd, je, VC, qA, qB, qC, qD, qE, qF, qG, qH, qI, qJ, qK, qL, qM, qN, qO, qP, qQ, qR, qS, qT, qU, qV, qW, qX, qY, qZ, qe, qf, qg, qh, qj, qk, ql, qm, qn, qo, qp, qq, q0t, qu, qv, ev, qw, qy, qz, zA, zB, zC, zD, zE, zF, zG, zH, zI, zJ, TE.sv, zK, zL, zM, ↓reduceIte, reduceCtorEq, Value.oneCell', Nat.reduceEqDiff, Nat.reduceAdd, Nat.reduceLT, Nat.reduceBEq, Nat.reduceSub, Nat.reduceLeDiff, zP, zQ, zR, zS, zT, zU, zV, zW, zX, zY, zZ, za, zb, zc, zd, ze, zf, zg, zh, zi, zj, zk, zl, zm, zn, zo, zp, zq, zr, zt, zu, zw, zx, zy, zz, cE, jA, jB, hap, killE, deadOf, rwE, cD, cO, jC, jD, jE, jF, jG, jH, jI, jJ, jK, jL, jM, jN, jO, jP, jQ, jR, jS, jT, jU, jV, jW, jX, jY, hP, hk, res69, kp69, dK0, rowLet, slDe, rwB, rwE, Int.toNat_natCast, Nat.reduceMul, Nat.reduceLeDiff, if_true, Int.reduceToNat, Nat.reduceAdd, Nat.mul_one, p3])
    exact nx _ _ _ _ (by rw [← hall, hd, encR, m1, m2, m3, m4]; simp) E _ (sub_mk ⟨rfl, rfl, rfl, trivial⟩)
  · have q1 : decide ((i : Int) < (s.length : Int)) = false := decide_eq_false (by omega)
    (refine VT_ok hctr (rs := res69) true 300 _ _ _ ?_; simp (maxSteps := 1000000) only [VT, jf, jg, jZ, ja, jd, je, VC, qA, qB, qC, qD, qE, qF, qG, qH, qI, qJ, qK, qL, qM, qN, qO, qP, qQ, qR, qS, qT, qU, qV, qW, qX, qY, qZ, qe, qf, qg, qh, qj, qk, ql, qm, qn, qo, qp, qq, q0t, qu, qv, ev, qw, qy, qz, zA, zB, zC, zD, zE, zF, zG, zH, zI, zJ, TE.sv, zK, zL, zM, ↓reduceIte, reduceCtorEq, Value.oneCell', Nat.reduceEqDiff, Nat.reduceAdd, Nat.reduceLT, Nat.reduceBEq, Nat.reduceSub, Nat.reduceLeDiff, zP, zQ, zR, zS, zT, zU, zV, zW, zX, zY, zZ, za, zb, zc, zd, ze, zf, zg, zh, zi, zj, zk, zl, zm, zn, zo, zp, zq, zr, zt, zu, zw, zx, zy, zz, cE, jA, jB, hap, killE, deadOf, rwE, cD, cO, jC, jD, jE, jF, jG, jH, jI, jJ, jK, jL, jM, jN, jO, jP, jQ, jR, jS, jT, jU, jV, jW, jX, jY, hP, hk, res69, kp69, dK0, rowLet, slDe, rwB, rwE, Int.toNat_natCast, Nat.reduceMul, Nat.reduceLeDiff, if_true, Int.reduceToNat, Nat.reduceAdd, Nat.mul_one, q1])
    refine hX rfl rfl ?_
    have hP := hP0; have hk := hk0; have hctr := hctr0
    rw [List.drop_of_length_le (by omega), encR, List.append_nil] at hall
    (refine VT_ok hctr (rs := res69) true 300 _ _ _ ?_; simp (maxSteps := 1000000) only [VT, jf, jg, jZ, ja, jd, je, VC, qA, qB, qC, qD, qE, qF, qG, qH, qI, qJ, qK, qL, qM, qN, qO, qP, qQ, qR, qS, qT, qU, qV, qW, qX, qY, qZ, qe, qf, qg, qh, qj, qk, ql, qm, qn, qo, qp, qq, q0t, qu, qv, ev, qw, qy, qz, zA, zB, zC, zD, zE, zF, zG, zH, zI, zJ, TE.sv, zK, zL, zM, ↓reduceIte, reduceCtorEq, Value.oneCell', Nat.reduceEqDiff, Nat.reduceAdd, Nat.reduceLT, Nat.reduceBEq, Nat.reduceSub, Nat.reduceLeDiff, zP, zQ, zR, zS, zT, zU, zV, zW, zX, zY, zZ, za, zb, zc, zd, ze, zf, zg, zh, zi, zj, zk, zl, zm, zn, zo, zp, zq, zr, zt, zu, zw, zx, zy, zz, cE, jA, jB, hap, killE, deadOf, rwE, cD, cO, jC, jD, jE, jF, jG, jH, jI, jJ, jK, jL, jM, jN, jO, jP, jQ, jR, jS, jT, jU, jV, jW, jX, jY, hP, hk, res69, kp69, dK0, rowLet, slDe, rwB, rwE, Int.toNat_natCast, Nat.reduceMul, Nat.reduceLeDiff, if_true, Int.reduceToNat, Nat.reduceAdd, Nat.mul_one, q1])
    refine bytes_rw (l := out) (by rw [hP]; exact Tryz.underlying73) (by rw [hP]; exact Tryz.underlying9) (by rw [hP]; exact Tryz.underlying5) rfl rfl rfl (by simp) ?_
    (refine VT_ok hctr (rs := res69) true 300 _ _ _ ?_; simp (maxSteps := 1000000) only [VT, jf, jg, jZ, ja, jd, je, VC, qA, qB, qC, qD, qE, qF, qG, qH, qI, qJ, qK, qL, qM, qN, qO, qP, qQ, qR, qS, qT, qU, qV, qW, qX, qY, qZ, qe, qf, qg, qh, qj, qk, ql, qm, qn, qo, qp, qq, q0t, qu, qv, ev, qw, qy, qz, zA, zB, zC, zD, zE, zF, zG, zH, zI, zJ, TE.sv, zK, zL, zM, ↓reduceIte, reduceCtorEq, Value.oneCell', Nat.reduceEqDiff, Nat.reduceAdd, Nat.reduceLT, Nat.reduceBEq, Nat.reduceSub, Nat.reduceLeDiff, zP, zQ, zR, zS, zT, zU, zV, zW, zX, zY, zZ, za, zb, zc, zd, ze, zf, zg, zh, zi, zj, zk, zl, zm, zn, zo, zp, zq, zr, zt, zu, zw, zx, zy, zz, cE, jA, jB, hap, killE, deadOf, rwE, cD, cO, jC, jD, jE, jF, jG, jH, jI, jJ, jK, jL, jM, jN, jO, jP, jQ, jR, jS, jT, jU, jV, jW, jX, jY, hP, hk, res69, kp69, dK0, rowLet, slDe, rwB, rwE, Int.toNat_natCast, Nat.reduceMul, Nat.reduceLeDiff, if_true, Int.reduceToNat, Nat.reduceAdd, Nat.mul_one])
    exact fin _ _ hall.symm
end Go.Proofs.YtlaagebdbcmckaaGreatDoor
