/- (meta.reply).told, walked. Printed by gen_etold.py. -/
import Derived.Test.YtlaagebdbcmckaaGreatDoorCErep
import Derived.ChangeKeysEq
namespace Go.Proofs.YtlaagebdbcmckaaGreatDoor
set_option linter.unusedSimpArgs false
set_option linter.unusedVariables false
set_option linter.unusedSimpArgs false
set_option linter.unusedVariables false
set_option maxHeartbeats 8000000
open Go.RowKit
set_option maxRecDepth 100000
theorem infoStrT : (Tryz.prog.info? 9).map (fun i => (i.zero, i.size, i.bytes)) = some (some (.string ⟨#[]⟩), 1, 16) := by kernel_rfl
def litE (ws : List (List UInt8)) : EN := ⟨(9, 0, whole), ws.map SC.s, false⟩
def boxR (X : Xq) (r : Mq) (a : An) (now : Int) : EN := ⟨(66, 0, whole), rpS X r a now, true⟩
def rowS (l : List (List UInt8)) : EN := rwE 9 1 l.length (l.map SC.s)
def tE (ph : Bool) (l : List (List UInt8)) : EN := bif ph then rowS l else rowS []
def tV (n0 : Nat) (ph : Bool) (l : List (List UInt8)) : SC := bif ph then .rw 2 l.length else .sl 0 0 n0 n0
theorem told_app {D : Cx} {nt : Nat} {sl : List (Nat × SV)} {k : List KI} {dst : Option Nat} {ty : TypeId} {pos : String} {af : Array Edge} {all r : List Oper} {x y : Operand} {B : EN} {ph : Bool} {ws l : List (List UInt8)} {x0 : List UInt8} (hP : D.P = Tryz.prog) (hn0 : D.n0 ≤ 4) (hph : ph = false → l = ws) (hws : ws ≠ []) (hl : l.length ≤ 1000000)
    (hx : ev sl x = some (.c (tV ws.length ph l))) (hy : ev sl y = some (.c (.sl 3 0 1 1))) (hd : ∀ d, dst = some d → d < nt)
    (hK : ∀ E, Run D (.ops all r :: k) nt (jN dst (.c (.rw 4 (l.length + 1))) sl) [litE ws, B, E, ⟨(9, 0, whole), [.s x0], true⟩, rwE 9 1 (l.length + 1) (l.map SC.s ++ [.s x0])]) :
    Run D (.ops all (⟨dst, .call ⟨.builtin .append, #[x, y], #[24, 24]⟩, ty, pos, af, none⟩ :: r) :: k) nt sl [litE ws, B, tE ph l, ⟨(9, 0, whole), [.s x0], true⟩] := by
  obtain ⟨i0, hi', hz0, hz1, hz2⟩ := info_parts infoStrT
  have hwx : ∀ pr, wfs pr [SC.s x0] := fun pr y hy => by simp only [List.mem_singleton] at hy; subst hy; trivial
  cases ph with
  | true =>
    refine append_op (X := .rw 2 l.length) (Y := .sl 3 0 1 1) (o := some 2) (n := l.length) (m := 1) (z := 1) (bts := 16) (cells := l.map SC.s) (news := [.s x0]) (e := 9) (by rw [hP]; exact Tryz.underlying24) (by rw [hP]; exact hi') hz0 hz1 hz2 rfl Nat.zero_lt_one (by show ¬ ((9 : Nat) = DEAD); decide) (.some rfl) hx hy (src_sl (c := 3) (o := 0) (L := 1) rfl rfl) rfl rfl hwx (by omega) (by omega) (by simp; omega) rfl hd ?_
    exact hK _
  | false =>
    obtain rfl := hph rfl
    have hln : (l.map SC.s).length = l.length := List.length_map ..
    refine append_full_op (X := .sl 0 0 l.length l.length) (Y := .sl 3 0 1 1) (n := l.length) (m := 1) (z := 1) (bts := 16) (cells := l.map SC.s) (news := [.s x0]) (e := 9) (by rw [hP]; exact Tryz.underlying24) (by rw [hP]; exact hi') hz0 hz1 hz2 rfl (by show ¬ ((9 : Nat) = DEAD); decide) (src_sl (c := 0) (o := 0) (L := l.length) rfl (by
      have := takeAt_of (o := 0) (n := l.length) (l := l.map SC.s) (by omega)
      rw [List.drop_zero, List.take_of_length_le (by omega)] at this
      exact this)) (fun ρ a cp h => by simp only [SC.den, Value.slice.injEq] at h; exact h.2.2.symm) (by rw [hln, Nat.mul_one]) (fun pr => st_wf pr l) hx hy (src_sl (c := 3) (o := 0) (L := 1) rfl rfl) rfl hwx Nat.zero_lt_one (by omega) (by omega) (by simp; omega) rfl hd ?_
    exact hK _
theorem join_le {B : Nat} : ∀ {ws : List (List UInt8)}, (∀ x ∈ ws, x.length ≤ B) → (joinW ws).length ≤ ws.length * (B + 1)
  | [], _ => by simp [joinW, Lib.join]
  | [x], h => by
    have := h x (by simp)
    simp [joinW, Lib.join]; omega
  | x :: y :: ws, h => by
    have h1 := h x (by simp)
    have h2 := join_le (ws := y :: ws) fun z hz => h z (by simp at hz ⊢; exact .inr hz)
    have e : joinW (x :: y :: ws) = x ++ [32] ++ joinW (y :: ws) := by simp [joinW, Lib.join]
    rw [e]
    simp only [List.length_append, List.length_cons, List.length_nil] at h2 ⊢
    have : (ws.length + 1 + 1) * (B + 1) = (ws.length + 1) * (B + 1) + (B + 1) := Nat.succ_mul _ _
    omega
theorem dec_le20 {n : Nat} (h : n < 18446744073709551616) : (Lib.decDigits n).length ≤ 20 := by
  have := dec_len_le n (by omega)
  omega
theorem flagT_le {r : Mq} {a : An} {now : Int} (hok : RpOk r a now) {much : Bool} {f : List UInt8} (hf : f.length ≤ 5000) : (flagT r a now much f).length ≤ 1 ∧ ∀ x ∈ flagT r a now much f, x.length ≤ 5001 := by
  have d1 := dec_le20 (n := a.it.cas.toNat) (by have := hok.c1; omega)
  have d2 := dec_le20 (n := a.it.flags.toNat) (by have := hok.f1; omega)
  have d3 : (sizeT a.it).length ≤ 20 := dec_le20 (by have := hok.lv; omega)
  have d4 : (leftT a.it now).length ≤ 20 := by
    unfold leftT
    split
    · simp
    · refine dec_le20 ?_
      have := hok.e1
      split <;> omega
  have d5 := hok.lw
  cases f with
  | nil => simp [flagT]
  | cons c s =>
    simp only [List.length_cons] at hf
    simp only [flagT]
    repeat' split
    all_goals simp
    all_goals omega
def rowReply (f : Mq → An → Int → List UInt8) (X : Xq) (r : Mq) (a : An) (now : Int) : List SV → Option (Prop × SV)
  | [.g l] => some (l = rpS X r a now, .c (.s (f r a now)))
  | _ => none
def tdC (X : Xq) (r : Mq) (a : An) (now : Int) : Ctr := fun f en xs => match f with
  | 32 => rowReply (fun _ a now => leftT a.it now) X r a now xs
  | 33 => rowReply (fun _ a _ => sizeT a.it) X r a now xs
  | 31 => rowLine en xs
  | _ => txC f en xs
theorem tdC_ok {C : Cx} {X : Xq} {r : Mq} {a : An} {now : Int} (hP : C.P = Tryz.prog) (hE : EnvC C) (hok : RpOk r a now) : CtrOk C (tdC X r a now) := by
  intro f en xs p v h hp ρ w hup hHp hHo hinj hwf
  unfold tdC at h
  split at h
  · rw [hP]
    refine ⟨fun args w => Tryz.call32 args w, ?_⟩
    unfold rowReply at h
    split at h <;> simp only [Option.some.injEq, Prod.mk.injEq, reduceCtorEq] at h
    obtain ⟨rfl, rfl⟩ := h
    subst hp
    exact ⟨trivial, left_w hok (hE w hup)⟩
  · rw [hP]
    refine ⟨fun args w => Tryz.call33 args w, ?_⟩
    unfold rowReply at h
    split at h <;> simp only [Option.some.injEq, Prod.mk.injEq, reduceCtorEq] at h
    obtain ⟨rfl, rfl⟩ := h
    subst hp
    exact ⟨trivial, size_w hok (hE w hup)⟩
  · rw [hP]
    exact ⟨fun args w => Tryz.call31 args w, rowLine_ok h hp hHp hHo hinj hwf⟩
  · exact txC_ok hP hE f en xs p v h hp ρ w hup hHp hHo hinj hwf
theorem infoB3 : (Tryz.prog.info? 4).map (fun i => i.size) = some 1 := by kernel_rfl
theorem build3 (w : World) (x y z : Bool) : (Instr.build 99 #[(0, .bool x), (1, .bool y), (2, .bool z)]).run Tryz.prog w = .ok (.agg #[.bool x, .bool y, .bool z]) w :=
  run_build w _ _ _ (by cases x <;> cases y <;> cases z <;> kernel_rfl)
theorem idx3 (w : World) (x y z : Bool) (i : Nat) (hi : i < 3) : (Instr.index 99 (.agg #[.bool x, .bool y, .bool z]) (.int .i64 (i : Int))).run Tryz.prog w = .ok (.bool ([x, y, z].getD i false)) w := by
  obtain ⟨j, hj, hs⟩ := Option.map_eq_some_iff.1 infoB3
  have hsz : (sizeOf 4).run Tryz.prog w = .ok 1 w := by rw [← hs]; exact run_sizeOf hj
  have hp : ∀ (k : Nat) (v : Value), (#[Value.bool x, .bool y, .bool z] : Array Value)[k]? = some v → (part 4 #[.bool x, .bool y, .bool z] k).run Tryz.prog w = .ok v w := fun k v hk => run_part_plain _ (by kernel_rfl) hk
  match i, hi with
  | 0, _ => simp [Instr.index, asIntOf, run_und Tryz.underlying99, hsz, hp 0 _ rfl]
  | 1, _ => simp [Instr.index, asIntOf, run_und Tryz.underlying99, hsz, hp 1 _ rfl]
  | 2, _ => simp [Instr.index, asIntOf, run_und Tryz.underlying99, hsz, hp 2 _ rfl]
def slTd (X : Xq) (n0 : Nat) (much ph : Bool) (l : List (List UInt8)) (j : Nat) : List (Nat × SV) := [(15, .c (.i .i64 (j : Int))), (14, .c (.i .i64 (X.fn : Int))), (13, .c (.v (.slice X.fa X.fn X.fc))), (3, .c (.p 1 0)), (2, .c (tV n0 ph l)), (1, .c (.b much))]
def mkT (a : An) (much : Bool) (i : Nat) : List (List UInt8) := ([(a.w, [87]), (a.x, [88]), (a.z, [90])].take i).flatMap fun p : Bool × List UInt8 => if p.1 && much then [p.2] else []
theorem mkT_3 (a : An) (much : Bool) : mkT a much 3 = marksT a much := by
  unfold mkT marksT
  cases much <;> cases a.w <;> cases a.x <;> cases a.z <;> rfl
theorem mkT_succ (a : An) (much : Bool) {i : Nat} (hi : i < 3) : mkT a much (i + 1) = mkT a much i ++ if [a.w, a.x, a.z].getD i false && much then [[[87], [88], [90]].getD i []] else [] := by
  unfold mkT
  match i, hi with
  | 0, _ => simp
  | 1, _ => simp
  | 2, _ => simp
def slMk (a : An) (n0 : Nat) (much ph : Bool) (l : List (List UInt8)) (j : Nat) : List (Nat × SV) := [(109, .c (.i .i64 (j : Int))), (108, .g [.b a.w, .b a.x, .b a.z]), (2, .c (tV n0 ph l)), (1, .c (.b much))]
def enTd (X : Xq) (r : Mq) (a : An) (now : Int) (ws : List (List UInt8)) (ph : Bool) (l : List (List UInt8)) : List EN := [litE ws, boxR X r a now, tE ph l]
theorem told_w {X : Xq} {r : Mq} {a : An} {now : Int} {w : World} {g : Nat} {ws : List (List UInt8)} (much : Bool) (hok : RpOk r a now) (hn : X.fn = r.flags.length) (hraw : RawT w X.fa r.flags) (hE0 : Env w) (hws : ws ≠ []) (hwl : ws.length ≤ 100) (hwx : ∀ x ∈ ws, x.length ≤ 5001) (hb : w.heap[g]? = some (.cells (ws.map encW).toArray 9 (0, 0))) :
    Calls Tryz.prog 36 #[rpV X r a now, .bool much, .slice (some ⟨g, 0, none⟩) ws.length ws.length] w fun e w' => e = .returned (.string ⟨(toldT r a now much ws).toArray⟩) ∧ Below w.heap.size w w' := by
  obtain ⟨ca, cn, cc, tk, ar, fa, fn, fc⟩ := X
  have hn : fn = r.flags.length := hn
  have hraw : RawT w fa r.flags := hraw
  obtain ⟨X, hX0⟩ : ∃ X : Xq, X = ⟨ca, cn, cc, tk, ar, fa, fn, fc⟩ := ⟨_, rfl⟩
  have hat : At Non (roL [(g, 9, ws.map SC.s, false)]) (enL [(g, 9, ws.map SC.s, false)]) w := by
    refine at_list ?_ ?_
    · intro y hy
      simp only [List.mem_singleton] at hy
      subst hy
      refine ⟨?_, by show ¬ ((9 : Nat) = DEAD); decide, st_wf _ _, fun h => by cases h⟩
      rw [st_den]; exact hb
    · intro i j x y hi hj _
      have h1 := (List.getElem?_eq_some_iff.1 hi).1
      have h2 := (List.getElem?_eq_some_iff.1 hj).1
      simp at h1 h2; omega
  refine calls_of_Run Tryz.func36 rfl kp36 (S := Non) (ρ := roL [(g, 9, ws.map SC.s, false)]) (en := enL [(g, 9, ws.map SC.s, false)]) [.g (rpS ⟨ca, cn, cc, tk, ar, fa, fn, fc⟩ r a now), .c (.b much), .c (.sl 0 0 ws.length ws.length)] Tryz.ntmps36 hat (by simp only [List.mem_cons, List.not_mem_nil, or_false, forall_eq_or_imp, forall_eq]; exact ⟨rp_wf _ _ _ _ _, trivial, Nat.zero_lt_one⟩) (by simp) ?_
  intro C hC hP hk
  have hEC : EnvC C := fun w' hu => by rw [hC] at hu; exact hE0.below hu.to_below
  have hctr := tdC_ok (X := ⟨ca, cn, cc, tk, ar, fa, fn, fc⟩) hP hEC hok
  have hn0 : C.n0 = 1 := by rw [hC]; rfl
  have fin : ∀ l en, l = toldT r a now much ws → Fin C res36 (.c (.s l)) en := fun l en hl => by subst hl; exact Fin_cx (v := .c (.s (toldT r a now much ws))) hC hres36 fun ρ w' hw _ _ => ⟨rfl, by have := hw.up; rw [hC] at this; exact this.to_below⟩
  show Run C _ _ _ [litE ws]
  have fin' := fin
  (refine VT_ok hctr (rs := res36) true 300 _ _ _ ?_; simp (maxSteps := 1000000) only [VT, jf, jg, jZ, ja, jd, je, VC, qA, qB, qC, qD, qE, qF, qG, qH, qI, qJ, qK, qL, qM, qN, qO, qP, qQ, qR, qS, qT, qU, qV, qW, qX, qY, qZ, qe, qf, qg, qh, qj, qk, ql, qm, qn, qo, qp, qq, q0t, qu, qv, ev, qw, qy, qz, zA, zB, zC, zD, zE, zF, zG, zH, zI, zJ, TE.sv, zK, zL, zM, ↓reduceIte, reduceCtorEq, Value.oneCell', Nat.reduceEqDiff, Nat.reduceAdd, Nat.reduceLT, Nat.reduceBEq, Nat.reduceSub, Nat.reduceLeDiff, zP, zQ, zR, zS, zT, zU, zV, zW, zX, zY, zZ, za, zb, zc, zd, ze, zf, zg, zh, zi, zj, zk, zl, zm, zn, zo, zp, zq, zr, zt, zu, zw, zx, zy, zz, cE, jA, jB, hap, killE, deadOf, rwE, cD, cO, jC, jD, jE, jF, jG, jH, jI, jJ, jK, jL, jM, jN, jO, jP, jQ, jR, jS, jT, jU, jV, jW, jX, jY, hP, hk, res36, kp36, tdC, txC, rowText, rpS, boxR, litE, Int.toNat_natCast, Nat.mul_one, Nat.reduceMul, Int.le_refl])
  refine Run_nilrowG true (en' := [litE ws, boxR ⟨ca, cn, cc, tk, ar, fa, fn, fc⟩ r a now]) (sl' := slTd ⟨ca, cn, cc, tk, ar, fa, fn, fc⟩ ws.length much false ws 0) (9, 0, rowP 1 0 0) rfl (fun _ => ⟨rfl, .inr ⟨rfl, rfl, rfl⟩⟩) (fun _ => by show ¬ ((9 : Nat) = DEAD); decide) ?_ ?_ ?_
  · exact ⟨⟨rfl, rfl, fun ρ h => rfl, st_wf _ _⟩, ⟨rfl, rfl, fun ρ h => rfl, rp_wf _ _ _ _ _⟩, trivial⟩
  · refine ⟨⟨⟨_, rfl, fun ρ h => rfl⟩, ?_⟩, ⟨⟨_, rfl, fun ρ h => rfl⟩, ?_⟩, ⟨⟨_, rfl, fun ρ h => rfl⟩, ?_⟩, ⟨⟨_, rfl, fun ρ h => rfl⟩, ?_⟩, ⟨⟨_, rfl, fun ρ h => rfl⟩, ?_⟩, ⟨⟨_, rfl, fun ρ h => rfl⟩, ?_⟩, trivial⟩
    all_goals simp [SV.wf, SC.wf, zG, tV]
  have nf := hok.nf
  refine Run_loopP (ι := { y : Nat × Bool × List (List UInt8) // y.1 ≤ fn ∧ (y.2.1 = false → y.2.2 = ws) ∧ y.2.2 = ws ++ (r.flags.take y.1).flatMap (flagT r a now much) ∧ y.2.2.length ≤ ws.length + y.1 }) (fun y => slTd ⟨ca, cn, cc, tk, ar, fa, fn, fc⟩ ws.length much y.1.2.1 y.1.2.2 y.1.1) (fun y => enTd ⟨ca, cn, cc, tk, ar, fa, fn, fc⟩ r a now ws y.1.2.1 y.1.2.2) (fun y => fn - y.1.1) ⟨(0, false, ws), Nat.zero_le _, fun _ => rfl, by simp, Nat.le_refl _⟩ (sub_mk ⟨rfl, rfl, rfl, rfl, rfl, rfl, trivial⟩) rfl ?_
  rintro ⟨⟨j, ph, l⟩, hj, hph, hl, hll⟩ D dP dS dw dn dr dk ddf dPan dRet hX hJ
  have hP0 := hP; have hk0 := hk; have hctr0 := hctr
  have hP : D.P = Tryz.prog := by rw [dP]; exact hP0
  have hk : D.kp = kp36 := by rw [dk]; exact hk0
  have hctr := tdC_ok (X := ⟨ca, cn, cc, tk, ar, fa, fn, fc⟩) hP (by unfold EnvC; rw [dS, dw]; exact hEC : EnvC D) hok
  simp only at hj hph hl hll
  show Run D _ _ (slTd ⟨ca, cn, cc, tk, ar, fa, fn, fc⟩ ws.length much ph l j) (enTd ⟨ca, cn, cc, tk, ar, fa, fn, fc⟩ r a now ws ph l)
  by_cases hjn : j < fn
  · obtain ⟨x, hx⟩ : ∃ x, r.flags[j]? = some x := ⟨_, List.getElem?_eq_getElem (by omega)⟩
    obtain ⟨b0, o, ha, hr⟩ := hraw.rd (D := D) (by rw [dS, hC]; rfl) (by rw [dw, hC]; rfl) hx
    subst ha
    have q1 : decide ((j : Int) < (fn : Int)) = true := decide_eq_true (by omega)
    have p0 : (0 : Int) ≤ (j : Int) := by omega
    have p1 : (j : Int) < (fn : Int) := by omega
    have p3 : IntKind.i64.wrap ((j : Int) + 1) = ((j + 1 : Nat) : Int) := by rw [IntWalk.i64_in _ (by omega)]; rfl
    obtain ⟨lv, hlv⟩ : ∃ lv, tV ws.length ph l = lv := ⟨_, rfl⟩
    obtain ⟨E, hE2⟩ : ∃ E, tE ph l = E := ⟨_, rfl⟩
    have hsucc : ∀ u, flagT r a now much x = u → (r.flags.take (j + 1)).flatMap (flagT r a now much) = (r.flags.take j).flatMap (flagT r a now much) ++ u := fun u hu => by
      rw [List.take_succ_eq_append_getElem (by omega), List.flatMap_append, (List.getElem?_eq_some_iff.1 hx).2]
      simp [hu]
    -- nothing is told
    have none_ : flagT r a now much x = [] → ∀ s, sub (slTd ⟨ca, cn, cc, tk, ar, some ⟨b0, o, none⟩, fn, fc⟩ ws.length much ph l (j + 1)) s → Run D [] 127 s [litE ws, boxR ⟨ca, cn, cc, tk, ar, some ⟨b0, o, none⟩, fn, fc⟩ r a now, E] := fun h0 s hs => by
      have := hJ ⟨(j + 1, ph, l), by omega, hph, by rw [hsucc _ h0, List.append_nil]; exact hl, by simp only; omega⟩ s (by show fn - (j + 1) < fn - j; omega) hs
      rw [← hE2]; exact this
    -- a word is told
    have some_ : ∀ u, flagT r a now much x = [u] → ∀ E' s, sub [(15, .c (.i .i64 ((j + 1 : Nat) : Int))), (14, .c (.i .i64 (fn : Int))), (13, .c (.v (.slice (some ⟨b0, o, none⟩) fn fc))), (3, .c (.p 1 0)), (2, .c (.rw 4 (l.length + 1))), (1, .c (.b much))] s → Run D [] 127 s [litE ws, boxR ⟨ca, cn, cc, tk, ar, some ⟨b0, o, none⟩, fn, fc⟩ r a now, E', ⟨(9, 0, whole), [.s u], true⟩, rwE 9 1 (l.length + 1) (l.map SC.s ++ [.s u])] := fun u h0 E' s hs => by
      refine Run_less hs ?_
      have hJ' := hJ ⟨(j + 1, true, l ++ [u]), by omega, (fun h => by cases h), by rw [hsucc _ h0, ← List.append_assoc, ← hl], by simp; omega⟩ (slTd ⟨ca, cn, cc, tk, ar, some ⟨b0, o, none⟩, fn, fc⟩ ws.length much true (l ++ [u]) (j + 1)) (by show fn - (j + 1) < fn - j; omega) (fun d v h => h)
      refine Run_keepN (f := fun c => if c = 2 then 4 else c) (enK := enTd ⟨ca, cn, cc, tk, ar, some ⟨b0, o, none⟩, fn, fc⟩ r a now ws true (l ++ [u])) (slK := slTd ⟨ca, cn, cc, tk, ar, some ⟨b0, o, none⟩, fn, fc⟩ ws.length much true (l ++ [u]) (j + 1)) ⟨fun q hq => by rw [dn, hn0] at hq; exact if_neg (by omega), by rw [dn, hn0]; show 1 ≤ 3; decide⟩ (fun p q hp hq h => ?_) ?_ ?_ hJ'
      · have hp : p < 3 := hp
        have hq : q < 3 := hq
        have h : (if p = 2 then 4 else p) = (if q = 2 then 4 else q) := h
        split at h <;> split at h <;> omega
      · refine ⟨⟨_, rfl, fun ρ => by rw [litE, st_den, st_den], st_wf _ _⟩, ⟨_, rfl, fun ρ => rfl, rp_wf _ _ _ _ _⟩, ⟨l.map SC.s ++ [.s u], ?_, fun ρ => ?_, st_wf _ _⟩, trivial⟩
        · show some (rwE 9 1 (l.length + 1) (l.map SC.s ++ [.s u])) = _
          simp [tE, rowS, rwE]
        · show dens _ ((l ++ [u]).map SC.s) = dens ρ (l.map SC.s ++ [.s u])
          rw [show l.map SC.s ++ [SC.s u] = (l ++ [u]).map SC.s by simp, st_den, st_den]
      · refine ⟨⟨?_, _, rfl, fun ρ => rfl⟩, ⟨?_, _, rfl, fun ρ => rfl⟩, ⟨?_, _, rfl, fun ρ => rfl⟩, ⟨?_, _, rfl, fun ρ => rfl⟩, ⟨?_, _, rfl, fun ρ => ?_⟩, ⟨?_, _, rfl, fun ρ => rfl⟩, trivial⟩
        all_goals simp [SV.wf, SC.wf, enTd, tV, SV.den, SC.den]
    have hxl := hok.lf x (List.mem_of_getElem? hx)
    cases x with
    | nil =>
      have c0 : (([] : List UInt8) == []) = true := rfl
      (refine VT_ok hctr (rs := res36) true 300 _ _ _ ?_; simp (maxSteps := 1000000) only [VT, jf, jg, jZ, ja, jd, je, VC, qA, qB, qC, qD, qE, qF, qG, qH, qI, qJ, qK, qL, qM, qN, qO, qP, qQ, qR, qS, qT, qU, qV, qW, qX, qY, qZ, qe, qf, qg, qh, qj, qk, ql, qm, qn, qo, qp, qq, q0t, qu, qv, ev, qw, qy, qz, zA, zB, zC, zD, zE, zF, zG, zH, zI, zJ, TE.sv, zK, zL, zM, ↓reduceIte, reduceCtorEq, Value.oneCell', Nat.reduceEqDiff, Nat.reduceAdd, Nat.reduceLT, Nat.reduceBEq, Nat.reduceSub, Nat.reduceLeDiff, zP, zQ, zR, zS, zT, zU, zV, zW, zX, zY, zZ, za, zb, zc, zd, ze, zf, zg, zh, zi, zj, zk, zl, zm, zn, zo, zp, zq, zr, zt, zu, zw, zx, zy, zz, cE, jA, jB, hap, killE, deadOf, rwE, cD, cO, jC, jD, jE, jF, jG, jH, jI, jJ, jK, jL, jM, jN, jO, jP, jQ, jR, jS, jT, jU, jV, jW, jX, jY, hP, hk, res36, kp36, tdC, txC, rowText, rpS, boxR, litE, Int.toNat_natCast, Nat.mul_one, Nat.reduceMul, Int.le_refl, slTd, enTd, hlv, hE2, q1, p0, p1, p3, hr, c0])
      exact none_ rfl _ (sub_mk ⟨rfl, rfl, rfl, rfl, (by first | (rw [hlv]; done) | (rw [hlv]; rfl)), rfl, trivial⟩)
    | cons c s =>
      have c0 : ((c :: s : List UInt8) == []) = false := rfl
      have g0 : (0 : Int) ≤ 0 := by decide
      have g1 : (0 : Int) < ((s.length + 1 : Nat) : Int) := by omega
      have hgd : (c :: s : List UInt8).getD (0 : Int).toNat 0 = c := rfl
      by_cases h0 : c = 98
      · have e0 : ((c.toNat : Int) == 98) = true := u8_eq (k := 98) (by decide) h0
        (refine VT_ok hctr (rs := res36) true 300 _ _ _ ?_; simp (maxSteps := 1000000) only [VT, jf, jg, jZ, ja, jd, je, VC, qA, qB, qC, qD, qE, qF, qG, qH, qI, qJ, qK, qL, qM, qN, qO, qP, qQ, qR, qS, qT, qU, qV, qW, qX, qY, qZ, qe, qf, qg, qh, qj, qk, ql, qm, qn, qo, qp, qq, q0t, qu, qv, ev, qw, qy, qz, zA, zB, zC, zD, zE, zF, zG, zH, zI, zJ, TE.sv, zK, zL, zM, ↓reduceIte, reduceCtorEq, Value.oneCell', Nat.reduceEqDiff, Nat.reduceAdd, Nat.reduceLT, Nat.reduceBEq, Nat.reduceSub, Nat.reduceLeDiff, zP, zQ, zR, zS, zT, zU, zV, zW, zX, zY, zZ, za, zb, zc, zd, ze, zf, zg, zh, zi, zj, zk, zl, zm, zn, zo, zp, zq, zr, zt, zu, zw, zx, zy, zz, cE, jA, jB, hap, killE, deadOf, rwE, cD, cO, jC, jD, jE, jF, jG, jH, jI, jJ, jK, jL, jM, jN, jO, jP, jQ, jR, jS, jT, jU, jV, jW, jX, jY, hP, hk, res36, kp36, tdC, txC, rowText, rpS, boxR, litE, Int.toNat_natCast, Nat.mul_one, Nat.reduceMul, Int.le_refl, slTd, enTd, hlv, hE2, q1, p0, p1, p3, hr, c0, g0, g1, hgd, e0])
        rw [← hE2]
        refine told_app (B := boxR ⟨ca, cn, cc, tk, ar, some ⟨b0, o, none⟩, fn, fc⟩ r a now) (ph := ph) (ws := ws) (l := l) (x0 := [98]) hP (by rw [dn, hn0]; decide) hph hws (by omega) (by rw [hlv]; rfl) rfl (by simp) fun E' => ?_
        (refine VT_ok hctr (rs := res36) true 300 _ _ _ ?_; simp (maxSteps := 1000000) only [VT, jf, jg, jZ, ja, jd, je, VC, qA, qB, qC, qD, qE, qF, qG, qH, qI, qJ, qK, qL, qM, qN, qO, qP, qQ, qR, qS, qT, qU, qV, qW, qX, qY, qZ, qe, qf, qg, qh, qj, qk, ql, qm, qn, qo, qp, qq, q0t, qu, qv, ev, qw, qy, qz, zA, zB, zC, zD, zE, zF, zG, zH, zI, zJ, TE.sv, zK, zL, zM, ↓reduceIte, reduceCtorEq, Value.oneCell', Nat.reduceEqDiff, Nat.reduceAdd, Nat.reduceLT, Nat.reduceBEq, Nat.reduceSub, Nat.reduceLeDiff, zP, zQ, zR, zS, zT, zU, zV, zW, zX, zY, zZ, za, zb, zc, zd, ze, zf, zg, zh, zi, zj, zk, zl, zm, zn, zo, zp, zq, zr, zt, zu, zw, zx, zy, zz, cE, jA, jB, hap, killE, deadOf, rwE, cD, cO, jC, jD, jE, jF, jG, jH, jI, jJ, jK, jL, jM, jN, jO, jP, jQ, jR, jS, jT, jU, jV, jW, jX, jY, hP, hk, res36, kp36, tdC, txC, rowText, rpS, boxR, litE, Int.toNat_natCast, Nat.mul_one, Nat.reduceMul, Int.le_refl, rwE, p3])
        exact some_ [98] (by simp only [flagT]; rw [if_pos h0]) E' _ (sub_mk ⟨rfl, rfl, rfl, rfl, rfl, rfl, trivial⟩)
      have d0 : ((c.toNat : Int) == 98) = false := u8_ne (k := 98) h0
      by_cases h1 : c = 107
      · have e1 : ((c.toNat : Int) == 107) = true := u8_eq (k := 107) (by decide) h1
        have lw := hok.lw
        (refine VT_ok hctr (rs := res36) true 300 _ _ _ ?_; simp (maxSteps := 1000000) only [VT, jf, jg, jZ, ja, jd, je, VC, qA, qB, qC, qD, qE, qF, qG, qH, qI, qJ, qK, qL, qM, qN, qO, qP, qQ, qR, qS, qT, qU, qV, qW, qX, qY, qZ, qe, qf, qg, qh, qj, qk, ql, qm, qn, qo, qp, qq, q0t, qu, qv, ev, qw, qy, qz, zA, zB, zC, zD, zE, zF, zG, zH, zI, zJ, TE.sv, zK, zL, zM, ↓reduceIte, reduceCtorEq, Value.oneCell', Nat.reduceEqDiff, Nat.reduceAdd, Nat.reduceLT, Nat.reduceBEq, Nat.reduceSub, Nat.reduceLeDiff, zP, zQ, zR, zS, zT, zU, zV, zW, zX, zY, zZ, za, zb, zc, zd, ze, zf, zg, zh, zi, zj, zk, zl, zm, zn, zo, zp, zq, zr, zt, zu, zw, zx, zy, zz, cE, jA, jB, hap, killE, deadOf, rwE, cD, cO, jC, jD, jE, jF, jG, jH, jI, jJ, jK, jL, jM, jN, jO, jP, jQ, jR, jS, jT, jU, jV, jW, jX, jY, hP, hk, res36, kp36, tdC, txC, rowText, rpS, boxR, litE, Int.toNat_natCast, Nat.mul_one, Nat.reduceMul, Int.le_refl, slTd, enTd, hlv, hE2, q1, p0, p1, p3, hr, c0, g0, g1, hgd, d0, e1])
        refine ⟨by first | omega | (simp only [List.length_cons, List.length_nil]; omega), ?_⟩
        rw [← hE2]
        refine told_app (B := boxR ⟨ca, cn, cc, tk, ar, some ⟨b0, o, none⟩, fn, fc⟩ r a now) (ph := ph) (ws := ws) (l := l) (x0 := (107 :: r.word)) hP (by rw [dn, hn0]; decide) hph hws (by omega) (by rw [hlv]; rfl) rfl (by simp) fun E' => ?_
        (refine VT_ok hctr (rs := res36) true 300 _ _ _ ?_; simp (maxSteps := 1000000) only [VT, jf, jg, jZ, ja, jd, je, VC, qA, qB, qC, qD, qE, qF, qG, qH, qI, qJ, qK, qL, qM, qN, qO, qP, qQ, qR, qS, qT, qU, qV, qW, qX, qY, qZ, qe, qf, qg, qh, qj, qk, ql, qm, qn, qo, qp, qq, q0t, qu, qv, ev, qw, qy, qz, zA, zB, zC, zD, zE, zF, zG, zH, zI, zJ, TE.sv, zK, zL, zM, ↓reduceIte, reduceCtorEq, Value.oneCell', Nat.reduceEqDiff, Nat.reduceAdd, Nat.reduceLT, Nat.reduceBEq, Nat.reduceSub, Nat.reduceLeDiff, zP, zQ, zR, zS, zT, zU, zV, zW, zX, zY, zZ, za, zb, zc, zd, ze, zf, zg, zh, zi, zj, zk, zl, zm, zn, zo, zp, zq, zr, zt, zu, zw, zx, zy, zz, cE, jA, jB, hap, killE, deadOf, rwE, cD, cO, jC, jD, jE, jF, jG, jH, jI, jJ, jK, jL, jM, jN, jO, jP, jQ, jR, jS, jT, jU, jV, jW, jX, jY, hP, hk, res36, kp36, tdC, txC, rowText, rpS, boxR, litE, Int.toNat_natCast, Nat.mul_one, Nat.reduceMul, Int.le_refl, rwE, p3])
        exact some_ (107 :: r.word) (by simp only [flagT]; rw [if_neg h0, if_pos h1]) E' _ (sub_mk ⟨rfl, rfl, rfl, rfl, rfl, rfl, trivial⟩)
      have d1 : ((c.toNat : Int) == 107) = false := u8_ne (k := 107) h1
      by_cases h2 : c = 79
      · have e2 : ((c.toNat : Int) == 79) = true := u8_eq (k := 79) (by decide) h2
        (refine VT_ok hctr (rs := res36) true 300 _ _ _ ?_; simp (maxSteps := 1000000) only [VT, jf, jg, jZ, ja, jd, je, VC, qA, qB, qC, qD, qE, qF, qG, qH, qI, qJ, qK, qL, qM, qN, qO, qP, qQ, qR, qS, qT, qU, qV, qW, qX, qY, qZ, qe, qf, qg, qh, qj, qk, ql, qm, qn, qo, qp, qq, q0t, qu, qv, ev, qw, qy, qz, zA, zB, zC, zD, zE, zF, zG, zH, zI, zJ, TE.sv, zK, zL, zM, ↓reduceIte, reduceCtorEq, Value.oneCell', Nat.reduceEqDiff, Nat.reduceAdd, Nat.reduceLT, Nat.reduceBEq, Nat.reduceSub, Nat.reduceLeDiff, zP, zQ, zR, zS, zT, zU, zV, zW, zX, zY, zZ, za, zb, zc, zd, ze, zf, zg, zh, zi, zj, zk, zl, zm, zn, zo, zp, zq, zr, zt, zu, zw, zx, zy, zz, cE, jA, jB, hap, killE, deadOf, rwE, cD, cO, jC, jD, jE, jF, jG, jH, jI, jJ, jK, jL, jM, jN, jO, jP, jQ, jR, jS, jT, jU, jV, jW, jX, jY, hP, hk, res36, kp36, tdC, txC, rowText, rpS, boxR, litE, Int.toNat_natCast, Nat.mul_one, Nat.reduceMul, Int.le_refl, slTd, enTd, hlv, hE2, q1, p0, p1, p3, hr, c0, g0, g1, hgd, d0, d1, e2])
        rw [← hE2]
        refine told_app (B := boxR ⟨ca, cn, cc, tk, ar, some ⟨b0, o, none⟩, fn, fc⟩ r a now) (ph := ph) (ws := ws) (l := l) (x0 := (c :: s)) hP (by rw [dn, hn0]; decide) hph hws (by omega) (by rw [hlv]; rfl) rfl (by simp) fun E' => ?_
        (refine VT_ok hctr (rs := res36) true 300 _ _ _ ?_; simp (maxSteps := 1000000) only [VT, jf, jg, jZ, ja, jd, je, VC, qA, qB, qC, qD, qE, qF, qG, qH, qI, qJ, qK, qL, qM, qN, qO, qP, qQ, qR, qS, qT, qU, qV, qW, qX, qY, qZ, qe, qf, qg, qh, qj, qk, ql, qm, qn, qo, qp, qq, q0t, qu, qv, ev, qw, qy, qz, zA, zB, zC, zD, zE, zF, zG, zH, zI, zJ, TE.sv, zK, zL, zM, ↓reduceIte, reduceCtorEq, Value.oneCell', Nat.reduceEqDiff, Nat.reduceAdd, Nat.reduceLT, Nat.reduceBEq, Nat.reduceSub, Nat.reduceLeDiff, zP, zQ, zR, zS, zT, zU, zV, zW, zX, zY, zZ, za, zb, zc, zd, ze, zf, zg, zh, zi, zj, zk, zl, zm, zn, zo, zp, zq, zr, zt, zu, zw, zx, zy, zz, cE, jA, jB, hap, killE, deadOf, rwE, cD, cO, jC, jD, jE, jF, jG, jH, jI, jJ, jK, jL, jM, jN, jO, jP, jQ, jR, jS, jT, jU, jV, jW, jX, jY, hP, hk, res36, kp36, tdC, txC, rowText, rpS, boxR, litE, Int.toNat_natCast, Nat.mul_one, Nat.reduceMul, Int.le_refl, rwE, p3])
        exact some_ (c :: s) (by simp only [flagT]; rw [if_neg h0, if_neg h1, if_pos h2]) E' _ (sub_mk ⟨rfl, rfl, rfl, rfl, rfl, rfl, trivial⟩)
      have d2 : ((c.toNat : Int) == 79) = false := u8_ne (k := 79) h2
      cases much with
      | false =>
        (refine VT_ok hctr (rs := res36) true 300 _ _ _ ?_; simp (maxSteps := 1000000) only [VT, jf, jg, jZ, ja, jd, je, VC, qA, qB, qC, qD, qE, qF, qG, qH, qI, qJ, qK, qL, qM, qN, qO, qP, qQ, qR, qS, qT, qU, qV, qW, qX, qY, qZ, qe, qf, qg, qh, qj, qk, ql, qm, qn, qo, qp, qq, q0t, qu, qv, ev, qw, qy, qz, zA, zB, zC, zD, zE, zF, zG, zH, zI, zJ, TE.sv, zK, zL, zM, ↓reduceIte, reduceCtorEq, Value.oneCell', Nat.reduceEqDiff, Nat.reduceAdd, Nat.reduceLT, Nat.reduceBEq, Nat.reduceSub, Nat.reduceLeDiff, zP, zQ, zR, zS, zT, zU, zV, zW, zX, zY, zZ, za, zb, zc, zd, ze, zf, zg, zh, zi, zj, zk, zl, zm, zn, zo, zp, zq, zr, zt, zu, zw, zx, zy, zz, cE, jA, jB, hap, killE, deadOf, rwE, cD, cO, jC, jD, jE, jF, jG, jH, jI, jJ, jK, jL, jM, jN, jO, jP, jQ, jR, jS, jT, jU, jV, jW, jX, jY, hP, hk, res36, kp36, tdC, txC, rowText, rpS, boxR, litE, Int.toNat_natCast, Nat.mul_one, Nat.reduceMul, Int.le_refl, slTd, enTd, hlv, hE2, q1, p0, p1, p3, hr, c0, g0, g1, hgd, d0, d1, d2, Bool.not_false])
        exact none_ (by simp only [flagT]; rw [if_neg h0, if_neg h1, if_neg h2, if_pos trivial]) _ (sub_mk ⟨rfl, rfl, rfl, rfl, (by first | (rw [hlv]; done) | (rw [hlv]; rfl)), rfl, trivial⟩)
      | true =>
        have lc := dec_le20 (n := a.it.cas.toNat) (by have := hok.c1; omega)
        have lf := dec_le20 (n := a.it.flags.toNat) (by have := hok.f1; omega)
        have ls : (sizeT a.it).length ≤ 20 := dec_le20 (by have := hok.lv; omega)
        have ll : (leftT a.it now).length ≤ 20 := by
          unfold leftT
          split
          · simp
          · refine dec_le20 ?_
            have := hok.e1
            split <;> omega
        have k0 := hok.c0
        have k1 := hok.c1
        have k2 := hok.f0
        have k3 : a.it.flags < 18446744073709551616 := by have := hok.f1; omega
        have k4 : IntKind.u64.wrap a.it.flags = a.it.flags := by rw [IntKind.wrap_u64]; omega
        by_cases h3 : c = 99
        · have e3 : ((c.toNat : Int) == 99) = true := u8_eq (k := 99) (by decide) h3
          (refine VT_ok hctr (rs := res36) true 300 _ _ _ ?_; simp (maxSteps := 1000000) only [VT, jf, jg, jZ, ja, jd, je, VC, qA, qB, qC, qD, qE, qF, qG, qH, qI, qJ, qK, qL, qM, qN, qO, qP, qQ, qR, qS, qT, qU, qV, qW, qX, qY, qZ, qe, qf, qg, qh, qj, qk, ql, qm, qn, qo, qp, qq, q0t, qu, qv, ev, qw, qy, qz, zA, zB, zC, zD, zE, zF, zG, zH, zI, zJ, TE.sv, zK, zL, zM, ↓reduceIte, reduceCtorEq, Value.oneCell', Nat.reduceEqDiff, Nat.reduceAdd, Nat.reduceLT, Nat.reduceBEq, Nat.reduceSub, Nat.reduceLeDiff, zP, zQ, zR, zS, zT, zU, zV, zW, zX, zY, zZ, za, zb, zc, zd, ze, zf, zg, zh, zi, zj, zk, zl, zm, zn, zo, zp, zq, zr, zt, zu, zw, zx, zy, zz, cE, jA, jB, hap, killE, deadOf, rwE, cD, cO, jC, jD, jE, jF, jG, jH, jI, jJ, jK, jL, jM, jN, jO, jP, jQ, jR, jS, jT, jU, jV, jW, jX, jY, hP, hk, res36, kp36, tdC, txC, rowText, rpS, boxR, litE, Int.toNat_natCast, Nat.mul_one, Nat.reduceMul, Int.le_refl, slTd, enTd, hlv, hE2, q1, p0, p1, p3, hr, c0, g0, g1, hgd, d0, d1, d2, Bool.not_true, e3, k0, k1])
          refine ⟨by first | omega | (simp only [List.length_cons, List.length_nil]; omega), ?_⟩
          rw [← hE2]
          refine told_app (B := boxR ⟨ca, cn, cc, tk, ar, some ⟨b0, o, none⟩, fn, fc⟩ r a now) (ph := ph) (ws := ws) (l := l) (x0 := (99 :: Lib.decDigits a.it.cas.toNat)) hP (by rw [dn, hn0]; decide) hph hws (by omega) (by rw [hlv]; rfl) rfl (by simp) fun E' => ?_
          (refine VT_ok hctr (rs := res36) true 300 _ _ _ ?_; simp (maxSteps := 1000000) only [VT, jf, jg, jZ, ja, jd, je, VC, qA, qB, qC, qD, qE, qF, qG, qH, qI, qJ, qK, qL, qM, qN, qO, qP, qQ, qR, qS, qT, qU, qV, qW, qX, qY, qZ, qe, qf, qg, qh, qj, qk, ql, qm, qn, qo, qp, qq, q0t, qu, qv, ev, qw, qy, qz, zA, zB, zC, zD, zE, zF, zG, zH, zI, zJ, TE.sv, zK, zL, zM, ↓reduceIte, reduceCtorEq, Value.oneCell', Nat.reduceEqDiff, Nat.reduceAdd, Nat.reduceLT, Nat.reduceBEq, Nat.reduceSub, Nat.reduceLeDiff, zP, zQ, zR, zS, zT, zU, zV, zW, zX, zY, zZ, za, zb, zc, zd, ze, zf, zg, zh, zi, zj, zk, zl, zm, zn, zo, zp, zq, zr, zt, zu, zw, zx, zy, zz, cE, jA, jB, hap, killE, deadOf, rwE, cD, cO, jC, jD, jE, jF, jG, jH, jI, jJ, jK, jL, jM, jN, jO, jP, jQ, jR, jS, jT, jU, jV, jW, jX, jY, hP, hk, res36, kp36, tdC, txC, rowText, rpS, boxR, litE, Int.toNat_natCast, Nat.mul_one, Nat.reduceMul, Int.le_refl, rwE, p3])
          exact some_ (99 :: Lib.decDigits a.it.cas.toNat) (by simp only [flagT]; rw [if_neg h0, if_neg h1, if_neg h2, if_neg (by decide), if_pos h3]) E' _ (sub_mk ⟨rfl, rfl, rfl, rfl, rfl, rfl, trivial⟩)
        have d3 : ((c.toNat : Int) == 99) = false := u8_ne (k := 99) h3
        by_cases h4 : c = 102
        · have e4 : ((c.toNat : Int) == 102) = true := u8_eq (k := 102) (by decide) h4
          (refine VT_ok hctr (rs := res36) true 300 _ _ _ ?_; simp (maxSteps := 1000000) only [VT, jf, jg, jZ, ja, jd, je, VC, qA, qB, qC, qD, qE, qF, qG, qH, qI, qJ, qK, qL, qM, qN, qO, qP, qQ, qR, qS, qT, qU, qV, qW, qX, qY, qZ, qe, qf, qg, qh, qj, qk, ql, qm, qn, qo, qp, qq, q0t, qu, qv, ev, qw, qy, qz, zA, zB, zC, zD, zE, zF, zG, zH, zI, zJ, TE.sv, zK, zL, zM, ↓reduceIte, reduceCtorEq, Value.oneCell', Nat.reduceEqDiff, Nat.reduceAdd, Nat.reduceLT, Nat.reduceBEq, Nat.reduceSub, Nat.reduceLeDiff, zP, zQ, zR, zS, zT, zU, zV, zW, zX, zY, zZ, za, zb, zc, zd, ze, zf, zg, zh, zi, zj, zk, zl, zm, zn, zo, zp, zq, zr, zt, zu, zw, zx, zy, zz, cE, jA, jB, hap, killE, deadOf, rwE, cD, cO, jC, jD, jE, jF, jG, jH, jI, jJ, jK, jL, jM, jN, jO, jP, jQ, jR, jS, jT, jU, jV, jW, jX, jY, hP, hk, res36, kp36, tdC, txC, rowText, rpS, boxR, litE, Int.toNat_natCast, Nat.mul_one, Nat.reduceMul, Int.le_refl, slTd, enTd, hlv, hE2, q1, p0, p1, p3, hr, c0, g0, g1, hgd, d0, d1, d2, Bool.not_true, d3, e4, k2, k3, k4])
          refine ⟨by first | omega | (simp only [List.length_cons, List.length_nil]; omega), ?_⟩
          rw [← hE2]
          refine told_app (B := boxR ⟨ca, cn, cc, tk, ar, some ⟨b0, o, none⟩, fn, fc⟩ r a now) (ph := ph) (ws := ws) (l := l) (x0 := (102 :: Lib.decDigits a.it.flags.toNat)) hP (by rw [dn, hn0]; decide) hph hws (by omega) (by rw [hlv]; rfl) rfl (by simp) fun E' => ?_
          (refine VT_ok hctr (rs := res36) true 300 _ _ _ ?_; simp (maxSteps := 1000000) only [VT, jf, jg, jZ, ja, jd, je, VC, qA, qB, qC, qD, qE, qF, qG, qH, qI, qJ, qK, qL, qM, qN, qO, qP, qQ, qR, qS, qT, qU, qV, qW, qX, qY, qZ, qe, qf, qg, qh, qj, qk, ql, qm, qn, qo, qp, qq, q0t, qu, qv, ev, qw, qy, qz, zA, zB, zC, zD, zE, zF, zG, zH, zI, zJ, TE.sv, zK, zL, zM, ↓reduceIte, reduceCtorEq, Value.oneCell', Nat.reduceEqDiff, Nat.reduceAdd, Nat.reduceLT, Nat.reduceBEq, Nat.reduceSub, Nat.reduceLeDiff, zP, zQ, zR, zS, zT, zU, zV, zW, zX, zY, zZ, za, zb, zc, zd, ze, zf, zg, zh, zi, zj, zk, zl, zm, zn, zo, zp, zq, zr, zt, zu, zw, zx, zy, zz, cE, jA, jB, hap, killE, deadOf, rwE, cD, cO, jC, jD, jE, jF, jG, jH, jI, jJ, jK, jL, jM, jN, jO, jP, jQ, jR, jS, jT, jU, jV, jW, jX, jY, hP, hk, res36, kp36, tdC, txC, rowText, rpS, boxR, litE, Int.toNat_natCast, Nat.mul_one, Nat.reduceMul, Int.le_refl, rwE, p3])
          exact some_ (102 :: Lib.decDigits a.it.flags.toNat) (by simp only [flagT]; rw [if_neg h0, if_neg h1, if_neg h2, if_neg (by decide), if_neg h3, if_pos h4]) E' _ (sub_mk ⟨rfl, rfl, rfl, rfl, rfl, rfl, trivial⟩)
        have d4 : ((c.toNat : Int) == 102) = false := u8_ne (k := 102) h4
        by_cases h5 : c = 115
        · have e5 : ((c.toNat : Int) == 115) = true := u8_eq (k := 115) (by decide) h5
          (refine VT_ok hctr (rs := res36) true 300 _ _ _ ?_; simp (maxSteps := 1000000) only [VT, jf, jg, jZ, ja, jd, je, VC, qA, qB, qC, qD, qE, qF, qG, qH, qI, qJ, qK, qL, qM, qN, qO, qP, qQ, qR, qS, qT, qU, qV, qW, qX, qY, qZ, qe, qf, qg, qh, qj, qk, ql, qm, qn, qo, qp, qq, q0t, qu, qv, ev, qw, qy, qz, zA, zB, zC, zD, zE, zF, zG, zH, zI, zJ, TE.sv, zK, zL, zM, ↓reduceIte, reduceCtorEq, Value.oneCell', Nat.reduceEqDiff, Nat.reduceAdd, Nat.reduceLT, Nat.reduceBEq, Nat.reduceSub, Nat.reduceLeDiff, zP, zQ, zR, zS, zT, zU, zV, zW, zX, zY, zZ, za, zb, zc, zd, ze, zf, zg, zh, zi, zj, zk, zl, zm, zn, zo, zp, zq, zr, zt, zu, zw, zx, zy, zz, cE, jA, jB, hap, killE, deadOf, rwE, cD, cO, jC, jD, jE, jF, jG, jH, jI, jJ, jK, jL, jM, jN, jO, jP, jQ, jR, jS, jT, jU, jV, jW, jX, jY, hP, hk, res36, kp36, tdC, txC, rowText, rpS, boxR, litE, Int.toNat_natCast, Nat.mul_one, Nat.reduceMul, Int.le_refl, slTd, enTd, hlv, hE2, q1, p0, p1, p3, hr, c0, g0, g1, hgd, d0, d1, d2, Bool.not_true, d3, d4, e5, rowReply])
          refine ⟨by first | omega | (simp only [List.length_cons, List.length_nil]; omega), ?_⟩
          rw [← hE2]
          refine told_app (B := boxR ⟨ca, cn, cc, tk, ar, some ⟨b0, o, none⟩, fn, fc⟩ r a now) (ph := ph) (ws := ws) (l := l) (x0 := (115 :: sizeT a.it)) hP (by rw [dn, hn0]; decide) hph hws (by omega) (by rw [hlv]; rfl) rfl (by simp) fun E' => ?_
          (refine VT_ok hctr (rs := res36) true 300 _ _ _ ?_; simp (maxSteps := 1000000) only [VT, jf, jg, jZ, ja, jd, je, VC, qA, qB, qC, qD, qE, qF, qG, qH, qI, qJ, qK, qL, qM, qN, qO, qP, qQ, qR, qS, qT, qU, qV, qW, qX, qY, qZ, qe, qf, qg, qh, qj, qk, ql, qm, qn, qo, qp, qq, q0t, qu, qv, ev, qw, qy, qz, zA, zB, zC, zD, zE, zF, zG, zH, zI, zJ, TE.sv, zK, zL, zM, ↓reduceIte, reduceCtorEq, Value.oneCell', Nat.reduceEqDiff, Nat.reduceAdd, Nat.reduceLT, Nat.reduceBEq, Nat.reduceSub, Nat.reduceLeDiff, zP, zQ, zR, zS, zT, zU, zV, zW, zX, zY, zZ, za, zb, zc, zd, ze, zf, zg, zh, zi, zj, zk, zl, zm, zn, zo, zp, zq, zr, zt, zu, zw, zx, zy, zz, cE, jA, jB, hap, killE, deadOf, rwE, cD, cO, jC, jD, jE, jF, jG, jH, jI, jJ, jK, jL, jM, jN, jO, jP, jQ, jR, jS, jT, jU, jV, jW, jX, jY, hP, hk, res36, kp36, tdC, txC, rowText, rpS, boxR, litE, Int.toNat_natCast, Nat.mul_one, Nat.reduceMul, Int.le_refl, rwE, p3])
          exact some_ (115 :: sizeT a.it) (by simp only [flagT]; rw [if_neg h0, if_neg h1, if_neg h2, if_neg (by decide), if_neg h3, if_neg h4, if_pos h5]) E' _ (sub_mk ⟨rfl, rfl, rfl, rfl, rfl, rfl, trivial⟩)
        have d5 : ((c.toNat : Int) == 115) = false := u8_ne (k := 115) h5
        by_cases h6 : c = 116
        · have e6 : ((c.toNat : Int) == 116) = true := u8_eq (k := 116) (by decide) h6
          (refine VT_ok hctr (rs := res36) true 300 _ _ _ ?_; simp (maxSteps := 1000000) only [VT, jf, jg, jZ, ja, jd, je, VC, qA, qB, qC, qD, qE, qF, qG, qH, qI, qJ, qK, qL, qM, qN, qO, qP, qQ, qR, qS, qT, qU, qV, qW, qX, qY, qZ, qe, qf, qg, qh, qj, qk, ql, qm, qn, qo, qp, qq, q0t, qu, qv, ev, qw, qy, qz, zA, zB, zC, zD, zE, zF, zG, zH, zI, zJ, TE.sv, zK, zL, zM, ↓reduceIte, reduceCtorEq, Value.oneCell', Nat.reduceEqDiff, Nat.reduceAdd, Nat.reduceLT, Nat.reduceBEq, Nat.reduceSub, Nat.reduceLeDiff, zP, zQ, zR, zS, zT, zU, zV, zW, zX, zY, zZ, za, zb, zc, zd, ze, zf, zg, zh, zi, zj, zk, zl, zm, zn, zo, zp, zq, zr, zt, zu, zw, zx, zy, zz, cE, jA, jB, hap, killE, deadOf, rwE, cD, cO, jC, jD, jE, jF, jG, jH, jI, jJ, jK, jL, jM, jN, jO, jP, jQ, jR, jS, jT, jU, jV, jW, jX, jY, hP, hk, res36, kp36, tdC, txC, rowText, rpS, boxR, litE, Int.toNat_natCast, Nat.mul_one, Nat.reduceMul, Int.le_refl, slTd, enTd, hlv, hE2, q1, p0, p1, p3, hr, c0, g0, g1, hgd, d0, d1, d2, Bool.not_true, d3, d4, d5, e6, rowReply])
          refine ⟨by first | omega | (simp only [List.length_cons, List.length_nil]; omega), ?_⟩
          rw [← hE2]
          refine told_app (B := boxR ⟨ca, cn, cc, tk, ar, some ⟨b0, o, none⟩, fn, fc⟩ r a now) (ph := ph) (ws := ws) (l := l) (x0 := (116 :: leftT a.it now)) hP (by rw [dn, hn0]; decide) hph hws (by omega) (by rw [hlv]; rfl) rfl (by simp) fun E' => ?_
          (refine VT_ok hctr (rs := res36) true 300 _ _ _ ?_; simp (maxSteps := 1000000) only [VT, jf, jg, jZ, ja, jd, je, VC, qA, qB, qC, qD, qE, qF, qG, qH, qI, qJ, qK, qL, qM, qN, qO, qP, qQ, qR, qS, qT, qU, qV, qW, qX, qY, qZ, qe, qf, qg, qh, qj, qk, ql, qm, qn, qo, qp, qq, q0t, qu, qv, ev, qw, qy, qz, zA, zB, zC, zD, zE, zF, zG, zH, zI, zJ, TE.sv, zK, zL, zM, ↓reduceIte, reduceCtorEq, Value.oneCell', Nat.reduceEqDiff, Nat.reduceAdd, Nat.reduceLT, Nat.reduceBEq, Nat.reduceSub, Nat.reduceLeDiff, zP, zQ, zR, zS, zT, zU, zV, zW, zX, zY, zZ, za, zb, zc, zd, ze, zf, zg, zh, zi, zj, zk, zl, zm, zn, zo, zp, zq, zr, zt, zu, zw, zx, zy, zz, cE, jA, jB, hap, killE, deadOf, rwE, cD, cO, jC, jD, jE, jF, jG, jH, jI, jJ, jK, jL, jM, jN, jO, jP, jQ, jR, jS, jT, jU, jV, jW, jX, jY, hP, hk, res36, kp36, tdC, txC, rowText, rpS, boxR, litE, Int.toNat_natCast, Nat.mul_one, Nat.reduceMul, Int.le_refl, rwE, p3])
          exact some_ (116 :: leftT a.it now) (by simp only [flagT]; rw [if_neg h0, if_neg h1, if_neg h2, if_neg (by decide), if_neg h3, if_neg h4, if_neg h5, if_pos h6]) E' _ (sub_mk ⟨rfl, rfl, rfl, rfl, rfl, rfl, trivial⟩)
        have d6 : ((c.toNat : Int) == 116) = false := u8_ne (k := 116) h6
        (refine VT_ok hctr (rs := res36) true 300 _ _ _ ?_; simp (maxSteps := 1000000) only [VT, jf, jg, jZ, ja, jd, je, VC, qA, qB, qC, qD, qE, qF, qG, qH, qI, qJ, qK, qL, qM, qN, qO, qP, qQ, qR, qS, qT, qU, qV, qW, qX, qY, qZ, qe, qf, qg, qh, qj, qk, ql, qm, qn, qo, qp, qq, q0t, qu, qv, ev, qw, qy, qz, zA, zB, zC, zD, zE, zF, zG, zH, zI, zJ, TE.sv, zK, zL, zM, ↓reduceIte, reduceCtorEq, Value.oneCell', Nat.reduceEqDiff, Nat.reduceAdd, Nat.reduceLT, Nat.reduceBEq, Nat.reduceSub, Nat.reduceLeDiff, zP, zQ, zR, zS, zT, zU, zV, zW, zX, zY, zZ, za, zb, zc, zd, ze, zf, zg, zh, zi, zj, zk, zl, zm, zn, zo, zp, zq, zr, zt, zu, zw, zx, zy, zz, cE, jA, jB, hap, killE, deadOf, rwE, cD, cO, jC, jD, jE, jF, jG, jH, jI, jJ, jK, jL, jM, jN, jO, jP, jQ, jR, jS, jT, jU, jV, jW, jX, jY, hP, hk, res36, kp36, tdC, txC, rowText, rpS, boxR, litE, Int.toNat_natCast, Nat.mul_one, Nat.reduceMul, Int.le_refl, slTd, enTd, hlv, hE2, q1, p0, p1, p3, hr, c0, g0, g1, hgd, d0, d1, d2, Bool.not_true, d3, d4, d5, d6])
        exact none_ (by simp only [flagT]; rw [if_neg h0, if_neg h1, if_neg h2, if_neg (by decide), if_neg h3, if_neg h4, if_neg h5, if_neg h6]) _ (sub_mk ⟨rfl, rfl, rfl, rfl, (by first | (rw [hlv]; done) | (rw [hlv]; rfl)), rfl, trivial⟩)
  · have q1 : decide ((j : Int) < (fn : Int)) = false := decide_eq_false (by omega)
    have hjn' : j = fn := by omega
    obtain ⟨lv, hlv⟩ : ∃ lv, tV ws.length ph l = lv := ⟨_, rfl⟩
    obtain ⟨E, hE2⟩ : ∃ E, tE ph l = E := ⟨_, rfl⟩
    have hl1 : l = ws ++ r.flags.flatMap (flagT r a now much) := by rw [hl, hjn', List.take_of_length_le (by omega)]
    (refine VT_ok hctr (rs := res36) true 300 _ _ _ ?_; simp (maxSteps := 1000000) only [VT, jf, jg, jZ, ja, jd, je, VC, qA, qB, qC, qD, qE, qF, qG, qH, qI, qJ, qK, qL, qM, qN, qO, qP, qQ, qR, qS, qT, qU, qV, qW, qX, qY, qZ, qe, qf, qg, qh, qj, qk, ql, qm, qn, qo, qp, qq, q0t, qu, qv, ev, qw, qy, qz, zA, zB, zC, zD, zE, zF, zG, zH, zI, zJ, TE.sv, zK, zL, zM, ↓reduceIte, reduceCtorEq, Value.oneCell', Nat.reduceEqDiff, Nat.reduceAdd, Nat.reduceLT, Nat.reduceBEq, Nat.reduceSub, Nat.reduceLeDiff, zP, zQ, zR, zS, zT, zU, zV, zW, zX, zY, zZ, za, zb, zc, zd, ze, zf, zg, zh, zi, zj, zk, zl, zm, zn, zo, zp, zq, zr, zt, zu, zw, zx, zy, zz, cE, jA, jB, hap, killE, deadOf, rwE, cD, cO, jC, jD, jE, jF, jG, jH, jI, jJ, jK, jL, jM, jN, jO, jP, jQ, jR, jS, jT, jU, jV, jW, jX, jY, hP, hk, res36, kp36, tdC, txC, rowText, rpS, boxR, litE, Int.toNat_natCast, Nat.mul_one, Nat.reduceMul, Int.le_refl, slTd, enTd, hlv, hE2, q1])
    refine hX rfl rfl ?_
    have hP := hP0; have hk := hk0; have hctr := hctr0
    (refine VT_ok hctr (rs := res36) true 300 _ _ _ ?_; simp (maxSteps := 1000000) only [VT, jf, jg, jZ, ja, jd, je, VC, qA, qB, qC, qD, qE, qF, qG, qH, qI, qJ, qK, qL, qM, qN, qO, qP, qQ, qR, qS, qT, qU, qV, qW, qX, qY, qZ, qe, qf, qg, qh, qj, qk, ql, qm, qn, qo, qp, qq, q0t, qu, qv, ev, qw, qy, qz, zA, zB, zC, zD, zE, zF, zG, zH, zI, zJ, TE.sv, zK, zL, zM, ↓reduceIte, reduceCtorEq, Value.oneCell', Nat.reduceEqDiff, Nat.reduceAdd, Nat.reduceLT, Nat.reduceBEq, Nat.reduceSub, Nat.reduceLeDiff, zP, zQ, zR, zS, zT, zU, zV, zW, zX, zY, zZ, za, zb, zc, zd, ze, zf, zg, zh, zi, zj, zk, zl, zm, zn, zo, zp, zq, zr, zt, zu, zw, zx, zy, zz, cE, jA, jB, hap, killE, deadOf, rwE, cD, cO, jC, jD, jE, jF, jG, jH, jI, jJ, jK, jL, jM, jN, jO, jP, jQ, jR, jS, jT, jU, jV, jW, jX, jY, hP, hk, res36, kp36, tdC, txC, rowText, rpS, boxR, litE, Int.toNat_natCast, Nat.mul_one, Nat.reduceMul, Int.le_refl, slTd, enTd, hlv, hE2, q1])
    refine Run_soft1 (.g [.b a.w, .b a.x, .b a.z]) (fun ρ act w' hr => ⟨?_, fun y hy => ?_⟩) (by simp) ?_
    · have e1 := (hr.ev_ok (.tmp 101) (.c (.b a.w)) rfl).1
      have e2 := (hr.ev_ok (.tmp 104) (.c (.b a.x)) rfl).1
      have e3 := (hr.ev_ok (.tmp 107) (.c (.b a.z)) rfl).1
      have hb3 := build3 w' a.w a.x a.z
      rw [hP]
      simp only [execOp, List.map_toArray, List.map_cons, List.map_nil, e1, e2, e3, SV.den, SC.den]
      simp [hb3, SV.den, SC.den, dens]
    · simp only [List.mem_cons, List.not_mem_nil, or_false] at hy
      rcases hy with rfl | rfl | rfl <;> trivial
    (refine VT_ok hctr (rs := res36) true 300 _ _ _ ?_; simp (maxSteps := 1000000) only [VT, jf, jg, jZ, ja, jd, je, VC, qA, qB, qC, qD, qE, qF, qG, qH, qI, qJ, qK, qL, qM, qN, qO, qP, qQ, qR, qS, qT, qU, qV, qW, qX, qY, qZ, qe, qf, qg, qh, qj, qk, ql, qm, qn, qo, qp, qq, q0t, qu, qv, ev, qw, qy, qz, zA, zB, zC, zD, zE, zF, zG, zH, zI, zJ, TE.sv, zK, zL, zM, ↓reduceIte, reduceCtorEq, Value.oneCell', Nat.reduceEqDiff, Nat.reduceAdd, Nat.reduceLT, Nat.reduceBEq, Nat.reduceSub, Nat.reduceLeDiff, zP, zQ, zR, zS, zT, zU, zV, zW, zX, zY, zZ, za, zb, zc, zd, ze, zf, zg, zh, zi, zj, zk, zl, zm, zn, zo, zp, zq, zr, zt, zu, zw, zx, zy, zz, cE, jA, jB, hap, killE, deadOf, rwE, cD, cO, jC, jD, jE, jF, jG, jH, jI, jJ, jK, jL, jM, jN, jO, jP, jQ, jR, jS, jT, jU, jV, jW, jX, jY, hP, hk, res36, kp36, tdC, txC, rowText, rpS, boxR, litE, Int.toNat_natCast, Nat.mul_one, Nat.reduceMul, Int.le_refl])
    rw [← hlv, ← hE2]
    clear hlv hE2
    have hlen0 : l.length ≤ 5100 := by omega
    refine Run_loopP (ι := { y : Nat × Bool × List (List UInt8) // y.1 ≤ 3 ∧ (y.2.1 = false → y.2.2 = ws) ∧ y.2.2 = l ++ mkT a much y.1 ∧ y.2.2.length ≤ l.length + y.1 }) (fun y => slMk a ws.length much y.1.2.1 y.1.2.2 y.1.1) (fun y => enTd ⟨ca, cn, cc, tk, ar, fa, fn, fc⟩ r a now ws y.1.2.1 y.1.2.2) (fun y => 3 - y.1.1) ⟨(0, ph, l), Nat.zero_le _, hph, by simp [mkT], Nat.le_refl _⟩ (sub_mk ⟨rfl, rfl, rfl, rfl, trivial⟩) rfl ?_
    rintro ⟨⟨i, ph2, l2⟩, hi, hph2, hl2, hll2⟩ D2 dP2 dS2 dw2 dn2 dr2 dk2 ddf2 dPan2 dRet2 hX2 hJ2
    have hP0 := hP; have hk0 := hk; have hctr0 := hctr
    have hP : D2.P = Tryz.prog := by rw [dP2]; exact hP0
    have hk : D2.kp = kp36 := by rw [dk2]; exact hk0
    have hctr := tdC_ok (X := ⟨ca, cn, cc, tk, ar, fa, fn, fc⟩) hP (by unfold EnvC; rw [dS2, dw2]; exact hEC : EnvC D2) hok
    simp only at hi hph2 hl2 hll2
    show Run D2 _ _ (slMk a ws.length much ph2 l2 i) (enTd ⟨ca, cn, cc, tk, ar, fa, fn, fc⟩ r a now ws ph2 l2)
    obtain ⟨lv, hlv⟩ : ∃ lv, tV ws.length ph2 l2 = lv := ⟨_, rfl⟩
    obtain ⟨E, hE2⟩ : ∃ E, tE ph2 l2 = E := ⟨_, rfl⟩
    by_cases hi3 : i < 3
    · have q2 : decide ((i : Int) < 3) = true := decide_eq_true (by omega)
      have p4 : IntKind.i64.wrap ((i : Int) + 1) = ((i + 1 : Nat) : Int) := by rw [IntWalk.i64_in _ (by omega)]; rfl
      have hsc := mkT_succ a much hi3
      (refine VT_ok hctr (rs := res36) true 300 _ _ _ ?_; simp (maxSteps := 1000000) only [VT, jf, jg, jZ, ja, jd, je, VC, qA, qB, qC, qD, qE, qF, qG, qH, qI, qJ, qK, qL, qM, qN, qO, qP, qQ, qR, qS, qT, qU, qV, qW, qX, qY, qZ, qe, qf, qg, qh, qj, qk, ql, qm, qn, qo, qp, qq, q0t, qu, qv, ev, qw, qy, qz, zA, zB, zC, zD, zE, zF, zG, zH, zI, zJ, TE.sv, zK, zL, zM, ↓reduceIte, reduceCtorEq, Value.oneCell', Nat.reduceEqDiff, Nat.reduceAdd, Nat.reduceLT, Nat.reduceBEq, Nat.reduceSub, Nat.reduceLeDiff, zP, zQ, zR, zS, zT, zU, zV, zW, zX, zY, zZ, za, zb, zc, zd, ze, zf, zg, zh, zi, zj, zk, zl, zm, zn, zo, zp, zq, zr, zt, zu, zw, zx, zy, zz, cE, jA, jB, hap, killE, deadOf, rwE, cD, cO, jC, jD, jE, jF, jG, jH, jI, jJ, jK, jL, jM, jN, jO, jP, jQ, jR, jS, jT, jU, jV, jW, jX, jY, hP, hk, res36, kp36, tdC, txC, rowText, rpS, boxR, litE, Int.toNat_natCast, Nat.mul_one, Nat.reduceMul, Int.le_refl, slMk, enTd, hlv, hE2, q2])
      refine Run_soft1 (.c (.b ([a.w, a.x, a.z].getD i false))) (fun ρ act w' hr => ⟨?_, trivial⟩) (by simp) ?_
      · have e1 := (hr.ev_ok (.tmp 108) (.g [.b a.w, .b a.x, .b a.z]) rfl).1
        have e2 := (hr.ev_ok (.tmp 109) (.c (.i .i64 (i : Int))) rfl).1
        have hb3 := idx3 w' a.w a.x a.z i hi3
        have e1' : act.eval (.tmp 108) = .agg #[.bool a.w, .bool a.x, .bool a.z] := e1
        have e2' : act.eval (.tmp 109) = .int .i64 (i : Int) := e2
        rw [hP]
        simp [execOp, e1', e2', hb3, SV.den, SC.den]
      obtain ⟨bv, hbv⟩ : ∃ bv, [a.w, a.x, a.z].getD i false = bv := ⟨_, rfl⟩
      rw [hbv] at hsc ⊢
      have nx : (bv && much) = false → ∀ s, sub (slMk a ws.length much ph2 l2 (i + 1)) s → Run D2 [] 127 s [litE ws, boxR ⟨ca, cn, cc, tk, ar, fa, fn, fc⟩ r a now, E] := fun h0 s hs => by
        have := hJ2 ⟨(i + 1, ph2, l2), by simp only; omega, hph2, by rw [hsc, h0]; simp only [Bool.false_eq_true, if_false, List.append_nil]; exact hl2, by simp only; omega⟩ s (by show 3 - (i + 1) < 3 - i; omega) hs
        rw [← hE2]; exact this
      cases bv with
      | false =>
        (refine VT_ok hctr (rs := res36) true 300 _ _ _ ?_; simp (maxSteps := 1000000) only [VT, jf, jg, jZ, ja, jd, je, VC, qA, qB, qC, qD, qE, qF, qG, qH, qI, qJ, qK, qL, qM, qN, qO, qP, qQ, qR, qS, qT, qU, qV, qW, qX, qY, qZ, qe, qf, qg, qh, qj, qk, ql, qm, qn, qo, qp, qq, q0t, qu, qv, ev, qw, qy, qz, zA, zB, zC, zD, zE, zF, zG, zH, zI, zJ, TE.sv, zK, zL, zM, ↓reduceIte, reduceCtorEq, Value.oneCell', Nat.reduceEqDiff, Nat.reduceAdd, Nat.reduceLT, Nat.reduceBEq, Nat.reduceSub, Nat.reduceLeDiff, zP, zQ, zR, zS, zT, zU, zV, zW, zX, zY, zZ, za, zb, zc, zd, ze, zf, zg, zh, zi, zj, zk, zl, zm, zn, zo, zp, zq, zr, zt, zu, zw, zx, zy, zz, cE, jA, jB, hap, killE, deadOf, rwE, cD, cO, jC, jD, jE, jF, jG, jH, jI, jJ, jK, jL, jM, jN, jO, jP, jQ, jR, jS, jT, jU, jV, jW, jX, jY, hP, hk, res36, kp36, tdC, txC, rowText, rpS, boxR, litE, Int.toNat_natCast, Nat.mul_one, Nat.reduceMul, Int.le_refl, p4])
        exact nx rfl _ (sub_mk ⟨rfl, rfl, (by first | (rw [hlv]; done) | (rw [hlv]; rfl)), rfl, trivial⟩)
      | true =>
        cases much with
        | false =>
          (refine VT_ok hctr (rs := res36) true 300 _ _ _ ?_; simp (maxSteps := 1000000) only [VT, jf, jg, jZ, ja, jd, je, VC, qA, qB, qC, qD, qE, qF, qG, qH, qI, qJ, qK, qL, qM, qN, qO, qP, qQ, qR, qS, qT, qU, qV, qW, qX, qY, qZ, qe, qf, qg, qh, qj, qk, ql, qm, qn, qo, qp, qq, q0t, qu, qv, ev, qw, qy, qz, zA, zB, zC, zD, zE, zF, zG, zH, zI, zJ, TE.sv, zK, zL, zM, ↓reduceIte, reduceCtorEq, Value.oneCell', Nat.reduceEqDiff, Nat.reduceAdd, Nat.reduceLT, Nat.reduceBEq, Nat.reduceSub, Nat.reduceLeDiff, zP, zQ, zR, zS, zT, zU, zV, zW, zX, zY, zZ, za, zb, zc, zd, ze, zf, zg, zh, zi, zj, zk, zl, zm, zn, zo, zp, zq, zr, zt, zu, zw, zx, zy, zz, cE, jA, jB, hap, killE, deadOf, rwE, cD, cO, jC, jD, jE, jF, jG, jH, jI, jJ, jK, jL, jM, jN, jO, jP, jQ, jR, jS, jT, jU, jV, jW, jX, jY, hP, hk, res36, kp36, tdC, txC, rowText, rpS, boxR, litE, Int.toNat_natCast, Nat.mul_one, Nat.reduceMul, Int.le_refl, p4])
          exact nx rfl _ (sub_mk ⟨rfl, rfl, (by first | (rw [hlv]; done) | (rw [hlv]; rfl)), rfl, trivial⟩)
        | true =>
          obtain ⟨u, hu⟩ : ∃ u, [[87], [88], [90]].getD i ([] : List UInt8) = u := ⟨_, rfl⟩
          have hsl : (([87, 88, 90] : List UInt8).take (i + 1)).drop i = u := by
            rw [← hu]
            match i, hi3 with
            | 0, _ => rfl
            | 1, _ => rfl
            | 2, _ => rfl
          have s0 : (0 : Int) ≤ (i : Int) := by omega
          have s1 : (i : Int) ≤ ((i + 1 : Nat) : Int) := by omega
          have s2 : ((i + 1 : Nat) : Int) ≤ 3 := by omega
          (refine VT_ok hctr (rs := res36) true 300 _ _ _ ?_; simp (maxSteps := 1000000) only [VT, jf, jg, jZ, ja, jd, je, VC, qA, qB, qC, qD, qE, qF, qG, qH, qI, qJ, qK, qL, qM, qN, qO, qP, qQ, qR, qS, qT, qU, qV, qW, qX, qY, qZ, qe, qf, qg, qh, qj, qk, ql, qm, qn, qo, qp, qq, q0t, qu, qv, ev, qw, qy, qz, zA, zB, zC, zD, zE, zF, zG, zH, zI, zJ, TE.sv, zK, zL, zM, ↓reduceIte, reduceCtorEq, Value.oneCell', Nat.reduceEqDiff, Nat.reduceAdd, Nat.reduceLT, Nat.reduceBEq, Nat.reduceSub, Nat.reduceLeDiff, zP, zQ, zR, zS, zT, zU, zV, zW, zX, zY, zZ, za, zb, zc, zd, ze, zf, zg, zh, zi, zj, zk, zl, zm, zn, zo, zp, zq, zr, zt, zu, zw, zx, zy, zz, cE, jA, jB, hap, killE, deadOf, rwE, cD, cO, jC, jD, jE, jF, jG, jH, jI, jJ, jK, jL, jM, jN, jO, jP, jQ, jR, jS, jT, jU, jV, jW, jX, jY, hP, hk, res36, kp36, tdC, txC, rowText, rpS, boxR, litE, Int.toNat_natCast, Nat.mul_one, Nat.reduceMul, Int.le_refl, p4, s0, s1, s2, hsl])
          refine ⟨by omega, ?_⟩
          rw [← hE2]
          refine told_app (B := boxR ⟨ca, cn, cc, tk, ar, fa, fn, fc⟩ r a now) (ph := ph2) (ws := ws) (l := l2) (x0 := u) hP (by rw [dn2, hn0]; decide) hph2 hws (by omega) (by rw [hlv]; rfl) rfl (by simp) fun E' => ?_
          (refine VT_ok hctr (rs := res36) true 300 _ _ _ ?_; simp (maxSteps := 1000000) only [VT, jf, jg, jZ, ja, jd, je, VC, qA, qB, qC, qD, qE, qF, qG, qH, qI, qJ, qK, qL, qM, qN, qO, qP, qQ, qR, qS, qT, qU, qV, qW, qX, qY, qZ, qe, qf, qg, qh, qj, qk, ql, qm, qn, qo, qp, qq, q0t, qu, qv, ev, qw, qy, qz, zA, zB, zC, zD, zE, zF, zG, zH, zI, zJ, TE.sv, zK, zL, zM, ↓reduceIte, reduceCtorEq, Value.oneCell', Nat.reduceEqDiff, Nat.reduceAdd, Nat.reduceLT, Nat.reduceBEq, Nat.reduceSub, Nat.reduceLeDiff, zP, zQ, zR, zS, zT, zU, zV, zW, zX, zY, zZ, za, zb, zc, zd, ze, zf, zg, zh, zi, zj, zk, zl, zm, zn, zo, zp, zq, zr, zt, zu, zw, zx, zy, zz, cE, jA, jB, hap, killE, deadOf, rwE, cD, cO, jC, jD, jE, jF, jG, jH, jI, jJ, jK, jL, jM, jN, jO, jP, jQ, jR, jS, jT, jU, jV, jW, jX, jY, hP, hk, res36, kp36, tdC, txC, rowText, rpS, boxR, litE, Int.toNat_natCast, Nat.mul_one, Nat.reduceMul, Int.le_refl, rwE, p4])
          rw [hu] at hsc
          have hJ' := hJ2 ⟨(i + 1, true, l2 ++ [u]), by simp only; omega, (fun h => by cases h), by rw [hsc, ← List.append_assoc, ← hl2]; rfl, by simp; omega⟩ (slMk a ws.length true true (l2 ++ [u]) (i + 1)) (by show 3 - (i + 1) < 3 - i; omega) (fun d v h => h)
          refine Run_keepN (f := fun c => if c = 2 then 4 else c) (enK := enTd ⟨ca, cn, cc, tk, ar, fa, fn, fc⟩ r a now ws true (l2 ++ [u])) (slK := slMk a ws.length true true (l2 ++ [u]) (i + 1)) ⟨fun q hq => by rw [dn2, hn0] at hq; exact if_neg (by omega), by rw [dn2, hn0]; show 1 ≤ 3; decide⟩ (fun p q hp hq h => ?_) ?_ ?_ hJ'
          · have hp : p < 3 := hp
            have hq : q < 3 := hq
            have h : (if p = 2 then 4 else p) = (if q = 2 then 4 else q) := h
            split at h <;> split at h <;> omega
          · refine ⟨⟨_, rfl, fun ρ => by rw [litE, st_den, st_den], st_wf _ _⟩, ⟨_, rfl, fun ρ => rfl, rp_wf _ _ _ _ _⟩, ⟨l2.map SC.s ++ [.s u], ?_, fun ρ => ?_, st_wf _ _⟩, trivial⟩
            · show some (rwE 9 1 (l2.length + 1) (l2.map SC.s ++ [.s u])) = _
              simp [tE, rowS, rwE]
            · show dens _ ((l2 ++ [u]).map SC.s) = dens ρ (l2.map SC.s ++ [.s u])
              rw [show l2.map SC.s ++ [SC.s u] = (l2 ++ [u]).map SC.s by simp, st_den, st_den]
          · refine ⟨⟨?_, _, rfl, fun ρ => rfl⟩, ⟨?_, _, rfl, fun ρ => rfl⟩, ⟨?_, _, rfl, fun ρ => ?_⟩, ⟨?_, _, rfl, fun ρ => rfl⟩, trivial⟩
            all_goals simp [SV.wf, wfs, SC.wf, enTd, tV, SV.den, SC.den]
    · have q2 : decide ((i : Int) < 3) = false := decide_eq_false (by omega)
      obtain rfl : i = 3 := by omega
      (refine VT_ok hctr (rs := res36) true 300 _ _ _ ?_; simp (maxSteps := 1000000) only [VT, jf, jg, jZ, ja, jd, je, VC, qA, qB, qC, qD, qE, qF, qG, qH, qI, qJ, qK, qL, qM, qN, qO, qP, qQ, qR, qS, qT, qU, qV, qW, qX, qY, qZ, qe, qf, qg, qh, qj, qk, ql, qm, qn, qo, qp, qq, q0t, qu, qv, ev, qw, qy, qz, zA, zB, zC, zD, zE, zF, zG, zH, zI, zJ, TE.sv, zK, zL, zM, ↓reduceIte, reduceCtorEq, Value.oneCell', Nat.reduceEqDiff, Nat.reduceAdd, Nat.reduceLT, Nat.reduceBEq, Nat.reduceSub, Nat.reduceLeDiff, zP, zQ, zR, zS, zT, zU, zV, zW, zX, zY, zZ, za, zb, zc, zd, ze, zf, zg, zh, zi, zj, zk, zl, zm, zn, zo, zp, zq, zr, zt, zu, zw, zx, zy, zz, cE, jA, jB, hap, killE, deadOf, rwE, cD, cO, jC, jD, jE, jF, jG, jH, jI, jJ, jK, jL, jM, jN, jO, jP, jQ, jR, jS, jT, jU, jV, jW, jX, jY, hP, hk, res36, kp36, tdC, txC, rowText, rpS, boxR, litE, Int.toNat_natCast, Nat.mul_one, Nat.reduceMul, Int.le_refl, slMk, enTd, hlv, hE2, q2])
      refine hX2 rfl rfl ?_
      have hP := hP0; have hk := hk0; have hctr := hctr0
      rw [← hlv, ← hE2]
      have hfin : l2 = ws ++ r.flags.flatMap (flagT r a now much) ++ marksT a much := by rw [hl2, mkT_3, hl1]
      have htx : joinW l2 ++ crlf = toldT r a now much ws := by rw [hfin]; rfl
      have hxs : ∀ x ∈ l2, x.length ≤ 5001 := by
        intro x hx
        rw [hfin] at hx
        rcases List.mem_append.1 hx with hx | hx
        · rcases List.mem_append.1 hx with hx | hx
          · exact hwx x hx
          · obtain ⟨f, hf, hx⟩ := List.mem_flatMap.1 hx
            exact (flagT_le hok (hok.lf f hf)).2 x hx
        · unfold marksT at hx
          split at hx
          · simp only [List.mem_append] at hx
            rcases hx with (hx | hx) | hx <;> (split at hx <;> simp at hx; subst hx; simp)
          · cases hx
      have hjl := join_le hxs
      have hll3 : l2.length ≤ 5200 := by omega
      have hjl2 : (joinW l2).length ≤ 140737488355328 := by
        have : l2.length * (5001 + 1) ≤ 5200 * 5002 := Nat.mul_le_mul_right _ hll3
        omega
      cases ph2 with
      | true =>
        (refine VT_ok hctr (rs := res36) true 300 _ _ _ ?_; simp (maxSteps := 1000000) only [VT, jf, jg, jZ, ja, jd, je, VC, qA, qB, qC, qD, qE, qF, qG, qH, qI, qJ, qK, qL, qM, qN, qO, qP, qQ, qR, qS, qT, qU, qV, qW, qX, qY, qZ, qe, qf, qg, qh, qj, qk, ql, qm, qn, qo, qp, qq, q0t, qu, qv, ev, qw, qy, qz, zA, zB, zC, zD, zE, zF, zG, zH, zI, zJ, TE.sv, zK, zL, zM, ↓reduceIte, reduceCtorEq, Value.oneCell', Nat.reduceEqDiff, Nat.reduceAdd, Nat.reduceLT, Nat.reduceBEq, Nat.reduceSub, Nat.reduceLeDiff, zP, zQ, zR, zS, zT, zU, zV, zW, zX, zY, zZ, za, zb, zc, zd, ze, zf, zg, zh, zi, zj, zk, zl, zm, zn, zo, zp, zq, zr, zt, zu, zw, zx, zy, zz, cE, jA, jB, hap, killE, deadOf, rwE, cD, cO, jC, jD, jE, jF, jG, jH, jI, jJ, jK, jL, jM, jN, jO, jP, jQ, jR, jS, jT, jU, jV, jW, jX, jY, hP, hk, res36, kp36, tdC, txC, rowText, rpS, boxR, litE, Int.toNat_natCast, Nat.mul_one, Nat.reduceMul, Int.le_refl, tE, tV, rowS, rwE, rowLine, rowJoinR, strsOf_map, cond_true, cond_false])
        exact ⟨⟨by omega, hjl2⟩, fin' _ _ htx⟩
      | false =>
        obtain rfl := hph2 rfl
        (refine VT_ok hctr (rs := res36) true 300 _ _ _ ?_; simp (maxSteps := 1000000) only [VT, jf, jg, jZ, ja, jd, je, VC, qA, qB, qC, qD, qE, qF, qG, qH, qI, qJ, qK, qL, qM, qN, qO, qP, qQ, qR, qS, qT, qU, qV, qW, qX, qY, qZ, qe, qf, qg, qh, qj, qk, ql, qm, qn, qo, qp, qq, q0t, qu, qv, ev, qw, qy, qz, zA, zB, zC, zD, zE, zF, zG, zH, zI, zJ, TE.sv, zK, zL, zM, ↓reduceIte, reduceCtorEq, Value.oneCell', Nat.reduceEqDiff, Nat.reduceAdd, Nat.reduceLT, Nat.reduceBEq, Nat.reduceSub, Nat.reduceLeDiff, zP, zQ, zR, zS, zT, zU, zV, zW, zX, zY, zZ, za, zb, zc, zd, ze, zf, zg, zh, zi, zj, zk, zl, zm, zn, zo, zp, zq, zr, zt, zu, zw, zx, zy, zz, cE, jA, jB, hap, killE, deadOf, rwE, cD, cO, jC, jD, jE, jF, jG, jH, jI, jJ, jK, jL, jM, jN, jO, jP, jQ, jR, jS, jT, jU, jV, jW, jX, jY, hP, hk, res36, kp36, tdC, txC, rowText, rpS, boxR, litE, Int.toNat_natCast, Nat.mul_one, Nat.reduceMul, Int.le_refl, tE, tV, rowS, rwE, rowLine, rowJoinR, strsOf_map, cond_true, cond_false])
        exact ⟨by omega, fin' _ _ htx⟩
end Go.Proofs.YtlaagebdbcmckaaGreatDoor
