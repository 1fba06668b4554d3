/- The model's small functions by the symbolic walk: told, moment, item, other; their rows of contracts. -/
import Derived.Test.YtfmpdbngpknmaaaDoorBB
import Derived.Test.YtfmpdbngpknmaaaDoorCSxLay
import Derived.Test.YtfmpdbngpknmaaaDoorBC
import Derived.IntWalk
import Derived.Test.YtfmpdbngpknmaaaDoorBF
namespace Go.Proofs.YtfmpdbngpknmaaaDoor
set_option linter.unusedSimpArgs false
set_option linter.unusedVariables false
set_option linter.unusedSimpArgs false
set_option linter.unusedVariables false
set_option maxHeartbeats 8000000
open Go.RowKit

def noC : Ctr := fun _ _ _ => none
theorem noC_ok {C : Cx} (_ : C.P = Tryd.prog) : CtrOk C noC := fun _ _ _ _ _ h => by cases h
theorem At.nil (S : Nat → Prop) (ρ : Nat → RE) (w : World) : At S ρ [] w := ⟨fun c _ _ _ hc => absurd hc (by simp), fun c _ _ _ hc => absurd hc (by simp), fun c _ hc => absurd hc (by simp), fun c _ _ hc => absurd hc (by simp)⟩
/-- entries that are only read -/
def ro (en : List EN) : List EN := en.map fun e => { e with mu := false }
theorem nth_ro {en : List EN} {c : Nat} {ty : TypeId × Nat × (RE → Prop)} {cells : List SC} {mu : Bool} (h : zD en c = some ⟨ty, cells, mu⟩) : zD (ro en) c = some ⟨ty, cells, false⟩ := by
  rw [nthS_eq] at h ⊢
  simp [ro, h]
theorem nth_ro' {en : List EN} {c : Nat} {ty : TypeId × Nat × (RE → Prop)} {cells : List SC} {mu : Bool} (h : zD (ro en) c = some ⟨ty, cells, mu⟩) : ∃ mu', zD en c = some ⟨ty, cells, mu'⟩ ∧ mu = false := by
  rw [nthS_eq] at h
  simp only [ro, List.getElem?_map, Option.map_eq_some_iff] at h
  obtain ⟨e, he, h2⟩ := h
  cases e
  simp only [EN.mk.injEq] at h2
  obtain ⟨rfl, rfl, h3⟩ := h2
  exact ⟨_, by rw [nthS_eq]; exact he, h3.symm⟩
theorem ro_len (en : List EN) : (ro en).length = en.length := by simp [ro]
theorem At.roOf {ρ : Nat → RE} {en : List EN} {w : World} (hp : Hp ρ (· < en.length) en w) (ho : Ho ρ (· < en.length) en) (inj : Inj ρ (· < en.length) en) : At Non ρ (ro en) w := by
  refine ⟨?_, ?_, ?_, ?_⟩
  · intro c ty cells mu hc he
    obtain ⟨mu', he', hmf⟩ := nth_ro' he
    rw [ro_len] at hc
    have h1 := hp c ty cells mu' hc he'
    exact ⟨h1.heap, by rw [ro_len]; exact h1.wf, fun hd => ⟨(h1.dead hd).1, by assumption⟩, h1.non⟩
  · intro c ty cells mu hc he
    obtain ⟨mu', he', _⟩ := nth_ro' he
    rw [ro_len] at hc
    exact ho c ty cells mu' hc he'
  · intro c d hc hd hcl hdl
    rw [ro_len] at hc hd
    have hl : ∀ z, deadE (ρ z) (zD (ro en) z) = deadE (ρ z) (zD en z) := fun z => by
      cases hx : zD en z with
      | none => rw [nthS_eq] at hx ⊢; simp [ro, hx]
      | some e => cases e with | mk ty cells mu => rw [nth_ro hx]; rfl
    rw [hl] at hcl hdl
    exact inj c d hc hd hcl hdl
  · intro c ty cells hc he
    obtain ⟨mu', _, h⟩ := nth_ro' he
    cases h

theorem wfC_iff {n : Nat} {x : SC} (h : x.wf (· < n)) : jV n x = true := by
  cases x with
  | p c o => exact decide_eq_true h
  | sl c o k m => exact decide_eq_true h
  | rw c k => exact decide_eq_true h
  | f fn cap => simp only [jV, List.all_eq_true, decide_eq_true_eq]; exact h
  | _ => rfl
theorem wfL_iff {n : Nat} : ∀ {l : List SC}, wfs (· < n) l → jW n l = true
  | [], _ => rfl
  | x :: l, h => by
    have h1 := wfC_iff (h x (List.mem_cons_self ..))
    have h2 := wfL_iff (l := l) (fun y hy => h y (List.mem_cons_of_mem _ hy))
    simp only [jW, h1, h2, cond_true]
theorem wfE_iff {n : Nat} : ∀ {l : List EN}, (∀ e ∈ l, wfs (· < n) e.cells) → jX n l = true
  | [], _ => rfl
  | ⟨ty, cells, mu⟩ :: l, h => by
    have h1 := wfL_iff (h ⟨ty, cells, mu⟩ (List.mem_cons_self ..))
    have h2 := wfE_iff (l := l) (fun y hy => h y (List.mem_cons_of_mem _ hy))
    have h1' : jW n cells = true := h1
    simp only [jX, h1', h2, cond_true]
theorem At.wfE {S : Nat → Prop} {ρ : Nat → RE} {en : List EN} {w : World} (h : At S ρ en w) : jX (zG en) en = true := by
  rw [lenN_eq]
  refine wfE_iff fun e he => ?_
  obtain ⟨c, hc, rfl⟩ := List.mem_iff_getElem.1 he
  exact (h.hp c en[c].ty en[c].cells en[c].mu hc (by rw [nthS_eq, List.getElem?_eq_getElem hc])).wf

def itS (x : It) : List SC := [.s x.key, .i .u32 x.flags, .s x.val, .i .i64 x.exp, .i .u64 x.cas, .i .i64 x.last, .b x.stale, .b x.won]
def anS (a : An) : List SC := [.i .i64 a.st, .s a.it.key, .i .u32 a.it.flags, .s a.it.val, .i .i64 a.it.exp, .i .u64 a.it.cas, .i .i64 a.it.last, .b a.it.stale, .b a.it.won, .i .u64 a.num, .b a.w, .b a.x, .b a.z]
def woS (v : SC) (X : St) (now : Int) (c : Cd) (most : Int) (i : Nat) (is : Bool) : List SC :=
  [v, .i .u64 X.cas, .i .i64 X.flush, .i .i64 now, .i .i64 c.op, .i .i64 c.mode, .s c.key, .s c.val, .i .u32 c.flags, .i .i64 c.exp, .b c.hasExp, .i .u64 c.cas, .b c.hasCas, .i .u64 c.delta, .i .u64 c.init, .b c.down, .b c.viv, .i .i64 c.vive, .i .i64 c.recache, .b c.inval, .i .i64 most, .i .i64 i, .b is]

/-- the end of a function that only reads -/
theorem Fin_ro {C : Cx} {P : Program} {fn : Func} {v v' : SV} {ρ : Nat → RE} {w : World} {n : Nat} {kp : List Nat} {en : List EN} {rs : List ResultVar} (hC : C = zL P fn (fun e w' => e = .returned (v.den ρ) ∧ Below w.heap.size w w') Non w ρ n kp) (hrs : fn.results.toList = rs) (hv : v' = v) (hw : v.wf (· < n)) : Fin C rs v' en := by
  subst hC
  subst hv
  exact Fin_of ctx_of hrs fun ρ' w' h hn _ => ⟨congrArg _ (SV.den_congr hw (fun c hc => h.ini c hc)), h.up.to_below⟩

/-! ### rows -/
def rowTold : List SV → Option (Prop × SV)
  | [.c (.i .i64 n)] => some (True, .g (anS (toldF n)))
  | _ => none
def rowMoment (en : List EN) : List SV → Option (Prop × SV)
  | [.c (.p c 0), .c (.i .i64 e)] => match zD en c with
    | some ⟨_, cells, _⟩ => match zD cells 3 with
      | some (.i .i64 now) => some (1 ≤ now ∧ now ≤ 1099511627776, .c (.i .i64 (momF now e)))
      | _ => none
    | none => none
  | _ => none
def rowItem (en : List EN) : List SV → Option (Prop × SV)
  | [.c (.p c 0)] => match zD en c with
    | some ⟨_, cells, _⟩ => match zD cells 0, zD cells 21 with
      | some (.rw d n), some (.i .i64 j) => match zD en d with
        | some ⟨(_, off, _), _ :: _, _⟩ => some (0 ≤ j ∧ j < (n : Int) ∧ j.toNat * 8 = off, .c (.p d 0))
        | _ => none
      | _, _ => none
    | none => none
  | _ => none
def rowOther (en : List EN) : List SV → Option (Prop × SV)
  | [.c (.p c 0)] => match zD en c with
    | some ⟨_, cells, _⟩ => match zD cells 0, zD cells 21, zD cells 12, zD cells 11 with
      | some (.rw d n), some (.i .i64 j), some (.b hc), some (.i .u64 b) => match zD en d with
        | some ⟨(_, off, _), c0 :: cs, _⟩ => match zD (c0 :: cs) 4 with
          | some (.i .u64 a) => some (0 ≤ j ∧ j < (n : Int) ∧ j.toNat * 8 = off, .c (.b (hc && !decide (a = b))))
          | _ => none
        | _ => none
      | _, _, _, _ => none
    | none => none
  | _ => none

section
variable {en : List EN} {ρ : Nat → RE} {w : World} {xs : List SV} {p : Prop} {v : SV}
set_option maxRecDepth 100000
theorem rowTold_ok (h : rowTold xs = some (p, v)) : v.wf (· < en.length) ∧ Calls Tryd.prog 23 (xs.map (SV.den ρ)).toArray w fun e w' => e = .returned (v.den ρ) ∧ Below w.heap.size w w' := by
  unfold rowTold at h
  split at h <;> simp only [Option.some.injEq, Prod.mk.injEq, reduceCtorEq] at h
  rename_i n
  obtain ⟨_, rfl⟩ := h
  refine ⟨by simp [SV.wf, wfs, anS, SC.wf], calls_of_Run Tryd.func23 rfl kp23 (S := Non) (ρ := ρ) (en := []) [.c (.i .i64 n)] Tryd.ntmps23 (At.nil _ _ _) (by simp [SV.wf, SC.wf]) (by simp) ?_⟩
  intro C hC hP hk
  have hctr := noC_ok hP
  (refine VC_ok hctr (rs := res23) 300 _ _ _ ?_; simp (maxSteps := 1000000) only [VC, qA, qB, qC, qD, qE, qF, qG, qH, qI, qJ, qK, qL, qM, qN, qO, qP, qQ, qR, qS, qT, qU, qV, qW, qX, qY, qZ, qe, qf, qg, qh, qj, qk, ql, qm, qn, qo, qp, qq, qt, qu, qv, ev, qw, qy, qz, zA, zB, zC, zD, zE, zF, zG, zH, zI, zJ, TE.sv, zK, zL, zM, ↓reduceIte, reduceCtorEq, Value.oneCell', Nat.reduceEqDiff, Nat.reduceAdd, Nat.reduceLT, Nat.reduceBEq, Nat.reduceSub, Nat.reduceLeDiff, zP, zQ, zR, zS, zT, zU, zV, zW, zX, zY, zZ, za, zb, zc, zd, ze, zf, zg, zh, zi, zj, zk, zl, zm, zn, zo, zp, zq, zr, zt, zu, zw, zx, zy, zz, cE, jA, jB, cD, cO, jC, jD, jE, jF, jG, jH, jI, jJ, jK, jL, jM, jN, jO, jP, jQ, jR, jS, jT, jU, jV, jW, jX, jY, hP, hk, res23, kp23])
  exact Fin_ro hC hres23 rfl (by simp [SV.wf, wfs, anS, SC.wf])
theorem rowMoment_ok (h : rowMoment en xs = some (p, v)) (hp : p) (hat : At Non ρ (ro en) w) (hwf : ∀ x ∈ xs, x.wf (· < en.length)) :
    v.wf (· < en.length) ∧ Calls Tryd.prog 24 (xs.map (SV.den ρ)).toArray w fun e w' => e = .returned (v.den ρ) ∧ Below w.heap.size w w' := by
  unfold rowMoment at h
  split at h <;> try cases h
  rename_i c e
  split at h <;> try cases h
  rename_i ty cells mu he
  split at h <;> try cases h
  rename_i now hn
  have he' := nth_ro he
  obtain ⟨hp1, hp2⟩ := hp
  refine ⟨trivial, calls_of_Run Tryd.func24 rfl kp24 [.c (.p c 0), .c (.i .i64 e)] Tryd.ntmps24 hat (by rw [ro_len]; exact hwf) (by simp) ?_⟩
  intro C hC hP hk
  have hctr := noC_ok hP
  (refine VC_ok hctr (rs := res24) 200 _ _ _ ?_; simp (maxSteps := 1000000) only [VC, qA, qB, qC, qD, qE, qF, qG, qH, qI, qJ, qK, qL, qM, qN, qO, qP, qQ, qR, qS, qT, qU, qV, qW, qX, qY, qZ, qe, qf, qg, qh, qj, qk, ql, qm, qn, qo, qp, qq, qt, qu, qv, ev, qw, qy, qz, zA, zB, zC, zD, zE, zF, zG, zH, zI, zJ, TE.sv, zK, zL, zM, ↓reduceIte, reduceCtorEq, Value.oneCell', Nat.reduceEqDiff, Nat.reduceAdd, Nat.reduceLT, Nat.reduceBEq, Nat.reduceSub, Nat.reduceLeDiff, zP, zQ, zR, zS, zT, zU, zV, zW, zX, zY, zZ, za, zb, zc, zd, ze, zf, zg, zh, zi, zj, zk, zl, zm, zn, zo, zp, zq, zr, zt, zu, zw, zx, zy, zz, cE, jA, jB, cD, cO, jC, jD, jE, jF, jG, jH, jI, jJ, jK, jL, jM, jN, jO, jP, jQ, jR, jS, jT, jU, jV, jW, jX, jY, hP, hk, res24, kp24, he', hn])
  have fin : ∀ x : Int, x = momF now e → Fin C res24 (.c (.i .i64 x)) (ro en) := fun x hx => Fin_ro hC hres24 (by rw [hx]) trivial
  refine ⟨fun h0 => ⟨fun h1 => fin _ ?_, fun h1 => ⟨fun h2 => fin _ ?_, fun h2 => fin _ ?_⟩⟩, fun h0 => fin _ ?_⟩
  · unfold momF; rw [if_pos (.inr h1)]
  · unfold momF; rw [if_neg (by omega), if_pos h2]
  · unfold momF; rw [if_neg (by omega), if_neg h2]; exact IntWalk.i64_in _ (by omega)
  · unfold momF; rw [if_pos (.inl h0)]
theorem rowItem_ok (h : rowItem en xs = some (p, v)) (hp : p) (hat : At Non ρ (ro en) w) (hwf : ∀ x ∈ xs, x.wf (· < en.length)) :
    v.wf (· < en.length) ∧ Calls Tryd.prog 25 (xs.map (SV.den ρ)).toArray w fun e w' => e = .returned (v.den ρ) ∧ Below w.heap.size w w' := by
  unfold rowItem at h
  split at h <;> try cases h
  rename_i c
  split at h <;> try cases h
  rename_i ty cells mu he
  split at h <;> try cases h
  rename_i d n j h0 h21
  split at h <;> simp only [Option.some.injEq, Prod.mk.injEq, reduceCtorEq] at h
  rename_i ty2 off iv c0 cs mu2 hd
  obtain ⟨rfl, rfl⟩ := h
  have he' := nth_ro he
  have hd' := nth_ro hd
  have hdl : d < en.length := by rw [nthS_eq] at hd; exact (List.getElem?_eq_some_iff.1 hd).1
  obtain ⟨hp1, hp2, hp3⟩ := hp
  refine ⟨hdl, calls_of_Run Tryd.func25 rfl kp25 [.c (.p c 0)] Tryd.ntmps25 hat (by rw [ro_len]; exact hwf) (by simp) ?_⟩
  intro C hC hP hk
  have hctr := noC_ok hP
  (refine VC_ok hctr (rs := res25) 300 _ _ _ ?_; simp (maxSteps := 1000000) only [VC, qA, qB, qC, qD, qE, qF, qG, qH, qI, qJ, qK, qL, qM, qN, qO, qP, qQ, qR, qS, qT, qU, qV, qW, qX, qY, qZ, qe, qf, qg, qh, qj, qk, ql, qm, qn, qo, qp, qq, qt, qu, qv, ev, qw, qy, qz, zA, zB, zC, zD, zE, zF, zG, zH, zI, zJ, TE.sv, zK, zL, zM, ↓reduceIte, reduceCtorEq, Value.oneCell', Nat.reduceEqDiff, Nat.reduceAdd, Nat.reduceLT, Nat.reduceBEq, Nat.reduceSub, Nat.reduceLeDiff, zP, zQ, zR, zS, zT, zU, zV, zW, zX, zY, zZ, za, zb, zc, zd, ze, zf, zg, zh, zi, zj, zk, zl, zm, zn, zo, zp, zq, zr, zt, zu, zw, zx, zy, zz, cE, jA, jB, cD, cO, jC, jD, jE, jF, jG, jH, jI, jJ, jK, jL, jM, jN, jO, jP, jQ, jR, jS, jT, jU, jV, jW, jX, jY, hP, hk, res25, kp25])
  (refine Run_drawD hctr (by rw [hP]; rfl) rs25_1 [] (ensure_type_of% (Cmp.of (by simp (maxSteps := 1000000) only [VC, qA, qB, qC, qD, qE, qF, qG, qH, qI, qJ, qK, qL, qM, qN, qO, qP, qQ, qR, qS, qT, qU, qV, qW, qX, qY, qZ, qe, qf, qg, qh, qj, qk, ql, qm, qn, qo, qp, qq, qt, qu, qv, ev, qw, qy, qz, zA, zB, zC, zD, zE, zF, zG, zH, zI, zJ, TE.sv, zK, zL, zM, ↓reduceIte, reduceCtorEq, Value.oneCell', Nat.reduceEqDiff, Nat.reduceAdd, Nat.reduceLT, Nat.reduceBEq, Nat.reduceSub, Nat.reduceLeDiff, zP, zQ, zR, zS, zT, zU, zV, zW, zX, zY, zZ, za, zb, zc, zd, ze, zf, zg, zh, zi, zj, zk, zl, zm, zn, zo, zp, zq, zr, zt, zu, zw, zx, zy, zz, cE, jA, jB, cD, cO, jC, jD, jE, jF, jG, jH, jI, jJ, jK, jL, jM, jN, jO, jP, jQ, jR, jS, jT, jU, jV, jW, jX, jY, hP, he', h0, h21, hd', hp1, hp2, hp3]; rfl)) "" Cmp.mk) (by kernel_rfl) (by kernel_rfl) (by first | exact lenB_one _ | kernel_rfl) (by kernel_rfl) (by rfl) (by rfl) (by first | exact firstN_self _ | rfl) (by rfl) (by simp (maxSteps := 1000000) only [VC, qA, qB, qC, qD, qE, qF, qG, qH, qI, qJ, qK, qL, qM, qN, qO, qP, qQ, qR, qS, qT, qU, qV, qW, qX, qY, qZ, qe, qf, qg, qh, qj, qk, ql, qm, qn, qo, qp, qq, qt, qu, qv, ev, qw, qy, qz, zA, zB, zC, zD, zE, zF, zG, zH, zI, zJ, TE.sv, zK, zL, zM, ↓reduceIte, reduceCtorEq, Value.oneCell', Nat.reduceEqDiff, Nat.reduceAdd, Nat.reduceLT, Nat.reduceBEq, Nat.reduceSub, Nat.reduceLeDiff, zP, zQ, zR, zS, zT, zU, zV, zW, zX, zY, zZ, za, zb, zc, zd, ze, zf, zg, zh, zi, zj, zk, zl, zm, zn, zo, zp, zq, zr, zt, zu, zw, zx, zy, zz, cE, jA, jB, cD, cO, jC, jD, jE, jF, jG, jH, jI, jJ, jK, jL, jM, jN, jO, jP, jQ, jR, jS, jT, jU, jV, jW, jX, jY, hP, he', h0, h21, hd', hp1, hp2, hp3]) ?_; refine VC_ok hctr (rs := res25) 300 _ _ _ ?_; simp (maxSteps := 1000000) only [VC, qA, qB, qC, qD, qE, qF, qG, qH, qI, qJ, qK, qL, qM, qN, qO, qP, qQ, qR, qS, qT, qU, qV, qW, qX, qY, qZ, qe, qf, qg, qh, qj, qk, ql, qm, qn, qo, qp, qq, qt, qu, qv, ev, qw, qy, qz, zA, zB, zC, zD, zE, zF, zG, zH, zI, zJ, TE.sv, zK, zL, zM, ↓reduceIte, reduceCtorEq, Value.oneCell', Nat.reduceEqDiff, Nat.reduceAdd, Nat.reduceLT, Nat.reduceBEq, Nat.reduceSub, Nat.reduceLeDiff, zP, zQ, zR, zS, zT, zU, zV, zW, zX, zY, zZ, za, zb, zc, zd, ze, zf, zg, zh, zi, zj, zk, zl, zm, zn, zo, zp, zq, zr, zt, zu, zw, zx, zy, zz, cE, jA, jB, cD, cO, jC, jD, jE, jF, jG, jH, jI, jJ, jK, jL, jM, jN, jO, jP, jQ, jR, jS, jT, jU, jV, jW, jX, jY, hP, hk, res25, kp25, he', h0, h21, hd', hp1, hp2, hp3])
  exact Fin_ro hC hres25 rfl (by rw [ro_len]; exact hdl)

/-- told, moment, item -/
def mC0 : Ctr := fun f en xs => match f with
  | 23 => rowTold xs
  | 24 => rowMoment en xs
  | 25 => rowItem en xs
  | _ => none
theorem mC0_ok {C : Cx} (hP : C.P = Tryd.prog) : CtrOk C mC0 := by
  intro f en xs p v h hp ρ w _ hHp hHo hinj hwf
  rw [hP]
  unfold mC0 at h
  split at h
  · exact ⟨fun args w => Tryd.call23 args w, rowTold_ok h⟩
  · exact ⟨fun args w => Tryd.call24 args w, rowMoment_ok h hp (At.roOf hHp hHo hinj) hwf⟩
  · exact ⟨fun args w => Tryd.call25 args w, rowItem_ok h hp (At.roOf hHp hHo hinj) hwf⟩
  · cases h
theorem rowOther_ok (h : rowOther en xs = some (p, v)) (hp : p) (hat : At Non ρ (ro en) w) (hwf : ∀ x ∈ xs, x.wf (· < en.length)) :
    v.wf (· < en.length) ∧ Calls Tryd.prog 35 (xs.map (SV.den ρ)).toArray w fun e w' => e = .returned (v.den ρ) ∧ Below w.heap.size w w' := by
  unfold rowOther at h
  split at h <;> try cases h
  rename_i c
  split at h <;> try cases h
  rename_i ty cells mu he
  split at h <;> try cases h
  rename_i d n j hc b h0 h21 h12 h11
  split at h <;> try cases h
  rename_i ty2 off iv c0 cs mu2 hd
  split at h <;> simp only [Option.some.injEq, Prod.mk.injEq, reduceCtorEq] at h
  rename_i a h4
  have h4 : zD cs 3 = some (.i .u64 a) := h4
  obtain ⟨rfl, rfl⟩ := h
  have he' := nth_ro he
  have hd' := nth_ro hd
  obtain ⟨hp1, hp2, hp3⟩ := hp
  refine ⟨trivial, calls_of_Run Tryd.func35 rfl kp35 [.c (.p c 0)] Tryd.ntmps35 hat (by rw [ro_len]; exact hwf) (by simp) ?_⟩
  intro C hC hP hk
  have hctr := mC0_ok hP
  have hwe := hat.wfE
  have hcl : c < zG (ro en) := by rw [lenN_eq]; rw [nthS_eq] at he'; exact (List.getElem?_eq_some_iff.1 he').1
  (refine VC_ok hctr (rs := res35) 300 _ _ _ ?_; simp (maxSteps := 1000000) only [VC, qA, qB, qC, qD, qE, qF, qG, qH, qI, qJ, qK, qL, qM, qN, qO, qP, qQ, qR, qS, qT, qU, qV, qW, qX, qY, qZ, qe, qf, qg, qh, qj, qk, ql, qm, qn, qo, qp, qq, qt, qu, qv, ev, qw, qy, qz, zA, zB, zC, zD, zE, zF, zG, zH, zI, zJ, TE.sv, zK, zL, zM, ↓reduceIte, reduceCtorEq, Value.oneCell', Nat.reduceEqDiff, Nat.reduceAdd, Nat.reduceLT, Nat.reduceBEq, Nat.reduceSub, Nat.reduceLeDiff, zP, zQ, zR, zS, zT, zU, zV, zW, zX, zY, zZ, za, zb, zc, zd, ze, zf, zg, zh, zi, zj, zk, zl, zm, zn, zo, zp, zq, zr, zt, zu, zw, zx, zy, zz, cE, jA, jB, cD, cO, jC, jD, jE, jF, jG, jH, jI, jJ, jK, jL, jM, jN, jO, jP, jQ, jR, jS, jT, jU, jV, jW, jX, jY, hP, hk, res35, kp35])
  cases hc with
  | false =>
    (refine Run_drawD hctr (by rw [hP]; rfl) rs35_1 [] (ensure_type_of% (Cmp.of (by simp (maxSteps := 1000000) only [VC, qA, qB, qC, qD, qE, qF, qG, qH, qI, qJ, qK, qL, qM, qN, qO, qP, qQ, qR, qS, qT, qU, qV, qW, qX, qY, qZ, qe, qf, qg, qh, qj, qk, ql, qm, qn, qo, qp, qq, qt, qu, qv, ev, qw, qy, qz, zA, zB, zC, zD, zE, zF, zG, zH, zI, zJ, TE.sv, zK, zL, zM, ↓reduceIte, reduceCtorEq, Value.oneCell', Nat.reduceEqDiff, Nat.reduceAdd, Nat.reduceLT, Nat.reduceBEq, Nat.reduceSub, Nat.reduceLeDiff, zP, zQ, zR, zS, zT, zU, zV, zW, zX, zY, zZ, za, zb, zc, zd, ze, zf, zg, zh, zi, zj, zk, zl, zm, zn, zo, zp, zq, zr, zt, zu, zw, zx, zy, zz, cE, jA, jB, cD, cO, jC, jD, jE, jF, jG, jH, jI, jJ, jK, jL, jM, jN, jO, jP, jQ, jR, jS, jT, jU, jV, jW, jX, jY, hP, he', h0, h21, hd', h12, h11, h4, hp1, hp2, hp3]; rfl)) "" Cmp.mk) (by kernel_rfl) (by kernel_rfl) (by first | exact lenB_one _ | kernel_rfl) (by kernel_rfl) (by rfl) (by rfl) (by first | exact firstN_self _ | rfl) (by rfl) (by simp (maxSteps := 1000000) only [VC, qA, qB, qC, qD, qE, qF, qG, qH, qI, qJ, qK, qL, qM, qN, qO, qP, qQ, qR, qS, qT, qU, qV, qW, qX, qY, qZ, qe, qf, qg, qh, qj, qk, ql, qm, qn, qo, qp, qq, qt, qu, qv, ev, qw, qy, qz, zA, zB, zC, zD, zE, zF, zG, zH, zI, zJ, TE.sv, zK, zL, zM, ↓reduceIte, reduceCtorEq, Value.oneCell', Nat.reduceEqDiff, Nat.reduceAdd, Nat.reduceLT, Nat.reduceBEq, Nat.reduceSub, Nat.reduceLeDiff, zP, zQ, zR, zS, zT, zU, zV, zW, zX, zY, zZ, za, zb, zc, zd, ze, zf, zg, zh, zi, zj, zk, zl, zm, zn, zo, zp, zq, zr, zt, zu, zw, zx, zy, zz, cE, jA, jB, cD, cO, jC, jD, jE, jF, jG, jH, jI, jJ, jK, jL, jM, jN, jO, jP, jQ, jR, jS, jT, jU, jV, jW, jX, jY, hP, he', h0, h21, hd', h12, h11, h4, hp1, hp2, hp3]) ?_; refine VC_ok hctr (rs := res35) 300 _ _ _ ?_; simp (maxSteps := 1000000) only [VC, qA, qB, qC, qD, qE, qF, qG, qH, qI, qJ, qK, qL, qM, qN, qO, qP, qQ, qR, qS, qT, qU, qV, qW, qX, qY, qZ, qe, qf, qg, qh, qj, qk, ql, qm, qn, qo, qp, qq, qt, qu, qv, ev, qw, qy, qz, zA, zB, zC, zD, zE, zF, zG, zH, zI, zJ, TE.sv, zK, zL, zM, ↓reduceIte, reduceCtorEq, Value.oneCell', Nat.reduceEqDiff, Nat.reduceAdd, Nat.reduceLT, Nat.reduceBEq, Nat.reduceSub, Nat.reduceLeDiff, zP, zQ, zR, zS, zT, zU, zV, zW, zX, zY, zZ, za, zb, zc, zd, ze, zf, zg, zh, zi, zj, zk, zl, zm, zn, zo, zp, zq, zr, zt, zu, zw, zx, zy, zz, cE, jA, jB, cD, cO, jC, jD, jE, jF, jG, jH, jI, jJ, jK, jL, jM, jN, jO, jP, jQ, jR, jS, jT, jU, jV, jW, jX, jY, hP, hk, res35, kp35, he', h0, h21, hd', h12, h11, h4, hp1, hp2, hp3])
    exact Fin_ro hC hres35 rfl trivial
  | true =>
    (refine Run_drawD hctr (by rw [hP]; rfl) rs35_1 [] (ensure_type_of% (Cmp.of (by simp (maxSteps := 1000000) only [VC, qA, qB, qC, qD, qE, qF, qG, qH, qI, qJ, qK, qL, qM, qN, qO, qP, qQ, qR, qS, qT, qU, qV, qW, qX, qY, qZ, qe, qf, qg, qh, qj, qk, ql, qm, qn, qo, qp, qq, qt, qu, qv, ev, qw, qy, qz, zA, zB, zC, zD, zE, zF, zG, zH, zI, zJ, TE.sv, zK, zL, zM, ↓reduceIte, reduceCtorEq, Value.oneCell', Nat.reduceEqDiff, Nat.reduceAdd, Nat.reduceLT, Nat.reduceBEq, Nat.reduceSub, Nat.reduceLeDiff, zP, zQ, zR, zS, zT, zU, zV, zW, zX, zY, zZ, za, zb, zc, zd, ze, zf, zg, zh, zi, zj, zk, zl, zm, zn, zo, zp, zq, zr, zt, zu, zw, zx, zy, zz, cE, jA, jB, cD, cO, jC, jD, jE, jF, jG, jH, jI, jJ, jK, jL, jM, jN, jO, jP, jQ, jR, jS, jT, jU, jV, jW, jX, jY, hP, he', h0, h21, hd', h12, h11, h4, hp1, hp2, hp3, mC0, rowItem, firstN_self, hwe, hcl]; rfl)) "" Cmp.mk) (by kernel_rfl) (by kernel_rfl) (by first | exact lenB_one _ | kernel_rfl) (by kernel_rfl) (by rfl) (by rfl) (by first | exact firstN_self _ | rfl) (by rfl) (by simp (maxSteps := 1000000) only [VC, qA, qB, qC, qD, qE, qF, qG, qH, qI, qJ, qK, qL, qM, qN, qO, qP, qQ, qR, qS, qT, qU, qV, qW, qX, qY, qZ, qe, qf, qg, qh, qj, qk, ql, qm, qn, qo, qp, qq, qt, qu, qv, ev, qw, qy, qz, zA, zB, zC, zD, zE, zF, zG, zH, zI, zJ, TE.sv, zK, zL, zM, ↓reduceIte, reduceCtorEq, Value.oneCell', Nat.reduceEqDiff, Nat.reduceAdd, Nat.reduceLT, Nat.reduceBEq, Nat.reduceSub, Nat.reduceLeDiff, zP, zQ, zR, zS, zT, zU, zV, zW, zX, zY, zZ, za, zb, zc, zd, ze, zf, zg, zh, zi, zj, zk, zl, zm, zn, zo, zp, zq, zr, zt, zu, zw, zx, zy, zz, cE, jA, jB, cD, cO, jC, jD, jE, jF, jG, jH, jI, jJ, jK, jL, jM, jN, jO, jP, jQ, jR, jS, jT, jU, jV, jW, jX, jY, hP, he', h0, h21, hd', h12, h11, h4, hp1, hp2, hp3, mC0, rowItem, firstN_self, hwe, hcl]) ?_; refine VC_ok hctr (rs := res35) 300 _ _ _ ?_; simp (maxSteps := 1000000) only [VC, qA, qB, qC, qD, qE, qF, qG, qH, qI, qJ, qK, qL, qM, qN, qO, qP, qQ, qR, qS, qT, qU, qV, qW, qX, qY, qZ, qe, qf, qg, qh, qj, qk, ql, qm, qn, qo, qp, qq, qt, qu, qv, ev, qw, qy, qz, zA, zB, zC, zD, zE, zF, zG, zH, zI, zJ, TE.sv, zK, zL, zM, ↓reduceIte, reduceCtorEq, Value.oneCell', Nat.reduceEqDiff, Nat.reduceAdd, Nat.reduceLT, Nat.reduceBEq, Nat.reduceSub, Nat.reduceLeDiff, zP, zQ, zR, zS, zT, zU, zV, zW, zX, zY, zZ, za, zb, zc, zd, ze, zf, zg, zh, zi, zj, zk, zl, zm, zn, zo, zp, zq, zr, zt, zu, zw, zx, zy, zz, cE, jA, jB, cD, cO, jC, jD, jE, jF, jG, jH, jI, jJ, jK, jL, jM, jN, jO, jP, jQ, jR, jS, jT, jU, jV, jW, jX, jY, hP, hk, res35, kp35, he', h0, h21, hd', h12, h11, h4, hp1, hp2, hp3, mC0, rowItem, firstN_self, hwe, hcl])
    exact Fin_ro hC hres35 (congrArg (fun x => SV.c (SC.b x)) (by by_cases h : a = b <;> simp [h])) trivial
end
end Go.Proofs.YtfmpdbngpknmaaaDoor
/- The model's state as entries of the symbolic walk: in and out. -/
namespace Go.Proofs.YtfmpdbngpknmaaaDoor
set_option linter.unusedSimpArgs false
set_option linter.unusedVariables false
open Go.RowKit

/-- all items of a row lie behind an entry without cells; or there is no block, and no item -/
def rowI (base : Nat) (xs : List It) : RE → Prop := fun r => (r.nl = none ∧ base ≤ r.blk ∧ 0 < r.cap ∧ r.cap ≤ maxLen ∧ r.pre = [] ∧ ∃ R, r.post = flat xs ++ R ∧ xs.length * 8 + R.length = r.cap * 8) ∨ (r.nl ≠ none ∧ xs = [] ∧ r.pre = [])
/-- a row around its i-th item -/
def winI (base : Nat) (xs : List It) (i : Nat) : RE → Prop := fun r => base ≤ r.blk ∧ 0 < r.cap ∧ r.cap ≤ maxLen ∧ r.pre = flat (xs.take i) ∧ ∃ R, r.post = flat (xs.drop (i + 1)) ++ R ∧ xs.length * 8 + R.length = r.cap * 8
def rowE (base : Nat) (xs : List It) : EN := ⟨(31, 0, rowI base xs), [], true⟩
def winE (base : Nat) (xs : List It) (i : Nat) (x : It) : EN := ⟨(31, i * 8, winI base xs i), itS x, true⟩
def woE (v : SC) (X : St) (now : Int) (c : Cd) (most : Int) (i : Nat) (is : Bool) : EN := ⟨(49, 0, whole), woS v X now c most i is, true⟩

theorem win_flat {xs : List It} {i : Nat} {x : It} (h : xs[i]? = some x) : flat (xs.take i) ++ x.cells ++ flat (xs.drop (i + 1)) = flat xs := by
  obtain ⟨hi, rfl⟩ := List.getElem?_eq_some_iff.1 h
  rw [List.append_assoc, ← flat_cons, ← flat_app, ← List.drop_eq_getElem_cons hi, List.take_append_drop]
theorem winI_set (base : Nat) (xs : List It) (i : Nat) (y : It) : winI base (xs.set i y) i = winI base xs i := by
  have h1 : (xs.set i y).take i = xs.take i := List.take_set_of_le (Nat.le_refl _)
  have h2 : (xs.set i y).drop (i + 1) = xs.drop (i + 1) := List.drop_set_of_lt (Nat.lt_succ_self _)
  unfold winI
  rw [h1, h2, List.length_set]

/-- which blocks an operation of the model may write -/
def S0 (g : Nat) (v : Value) : Nat → Prop := fun k => k = g ∨ oB v = some k
/-- the shape of a state's entries -/
def Sh (base : Nat) (X : St) (i : Nat) (is : Bool) (vS : SC) (tl : List EN) : Prop :=
  vS = .rw 1 X.items.length ∧ ((is = false ∧ tl = [rowE base X.items]) ∨ (is = true ∧ ∃ x, X.items[i]? = some x ∧ tl = [winE base X.items i x]))

theorem oB_rw {r : RE} {n k : Nat} (h : oB (rwOf r n) = some k) : r.nl = none ∧ r.blk = k := by
  cases hr : r.nl with
  | none => rw [rwOf_on hr] at h; exact ⟨rfl, oB_some h⟩
  | some p => rw [rwOf_off hr] at h; cases p <;> cases h
theorem cs2 {e0 e1 : EN} {c : Nat} (h : c < [e0, e1].length) : c = 0 ∨ c = 1 := by simp at h; omega
theorem wo_wf {pr : Nat → Prop} {d n : Nat} (hd : pr d) (X : St) (now : Int) (c : Cd) (most : Int) (i : Nat) (is : Bool) : wfs pr (woS (.rw d n) X now c most i is) := by
  intro y hy
  simp only [woS, List.mem_cons, List.not_mem_nil, or_false] at hy
  rcases hy with rfl | rfl | rfl | rfl | rfl | rfl | rfl | rfl | rfl | rfl | rfl | rfl | rfl | rfl | rfl | rfl | rfl | rfl | rfl | rfl | rfl | rfl | rfl <;> first | trivial | exact hd
theorem ws_at {base g : Nat} {v : Value} {X : St} {now : Int} {c : Cd} {most : Int} {i : Nat} {is : Bool} {w : World} (h : WS base w g v X now c most i is) (his : is = true → i < X.items.length) :
    ∃ vS tl ρ, At (S0 g v) ρ (woE vS X now c most i is :: tl) w ∧ ρ 0 = ⟨g, [], [], 0, none⟩ ∧ vS.den ρ = v ∧ Sh base X i is vS tl := by
  have hb := h.blk
  unfold Blk at hb
  have hne := own_ne h.blk h.own (by decide)
  -- entries made of the world's block and of one more
  have mk : ∀ (e1 : EN) (re : RE), rwOf re X.items.length = v → e1.ty.1 = 31 → (re.nl = none → w.heap[re.blk]? = some (.cells (re.pre ++ dens (fun q => if q = 0 then ⟨g, [], [], 0, none⟩ else re) e1.cells ++ re.post).toArray 31 (0, 0)) ∧ re.blk ≠ g) → (re.nl ≠ none → e1.cells = []) → wfs (fun q => q < 2) e1.cells → re.pre.length = e1.ty.2.1 → e1.ty.2.2 re → S0 g v re.blk →
      At (S0 g v) (fun q => if q = 0 then ⟨g, [], [], 0, none⟩ else re) [woE (.rw 1 X.items.length) X now c most i is, e1] w := by
    intro e1 re h1 h2 h3 h4 h5 h6 h7 h8
    refine ⟨?_, ?_, ?_, ?_⟩
    · intro q ty cells mu hq he
      rcases cs2 hq with rfl | rfl
      · simp only [zD, Option.some.injEq, woE, EN.mk.injEq] at he
        obtain ⟨rfl, rfl, rfl⟩ := he
        refine ⟨fun _ => ?_, wo_wf (pr := fun q => q < 2) (d := 1) (by omega) _ _ _ _ _ _, fun hd => absurd hd (by decide), fun hd => absurd rfl hd⟩
        show w.heap[g]? = some (.cells ([] ++ dens _ (woS _ X now c most i is) ++ []).toArray 49 (0, 0))
        rw [List.nil_append, List.append_nil, hb, ← h1]
        rfl
      · simp only [zD, Option.some.injEq] at he
        subst he
        refine ⟨fun hd => ?_, h5, fun hd => by rw [show ty.1 = 31 from h2] at hd; exact absurd hd (by decide), h4⟩
        rw [show ty.1 = 31 from h2]
        exact (h3 hd.2).1
    · intro q ty cells mu hq he
      rcases cs2 hq with rfl | rfl
      · simp only [zD, Option.some.injEq, woE, EN.mk.injEq] at he
        obtain ⟨rfl, rfl, rfl⟩ := he
        exact ⟨rfl, rfl, rfl⟩
      · simp only [zD, Option.some.injEq] at he
        subst he
        exact ⟨h6, h7⟩
    · intro q d hq hd hql hdl he
      rcases cs2 hq with rfl | rfl <;> rcases cs2 hd with rfl | rfl
      · rfl
      · exact absurd he.symm (h3 ((deadE_of (c := 1) rfl).1 hdl).2).2
      · exact absurd he (h3 ((deadE_of (c := 1) rfl).1 hql).2).2
      · rfl
    · intro q ty cells hq he
      rcases cs2 hq with rfl | rfl
      · exact .inl rfl
      · exact h8
  rcases h.own with ⟨p, hv, h0⟩ | ⟨r, cap, R, hv, hbr, hcp, hI⟩
  · have hf : is = false := by
      cases is with
      | false => rfl
      | true => have := his rfl; rw [h0] at this; simp at this
    refine ⟨.rw 1 X.items.length, [rowE base X.items], _, mk (rowE base X.items) ⟨g, [], [], 0, some p⟩ ?_ rfl (fun h => by cases h) (fun _ => rfl) (fun y hy => nomatch hy) rfl (.inr ⟨by simp, h0, rfl⟩) (.inl rfl), rfl, ?_, rfl, .inl ⟨hf, rfl⟩⟩
    · rw [hv, h0]; rfl
    · rw [hv, h0]; rfl
  · have hob : oB v = some r := by rw [hv]; exact oB_pos hcp
    have hgr : r ≠ g := fun e => hne (by rw [hob, e])
    have hblk : w.heap[r]? = some (.cells (flat X.items ++ R).toArray 31 (0, 0)) := hI.heap
    cases is with
    | false =>
      refine ⟨.rw 1 X.items.length, [rowE base X.items], _, mk (rowE base X.items) ⟨r, [], flat X.items ++ R, cap, none⟩ hv.symm rfl (fun _ => ⟨by simpa [rowE, dens] using hblk, hgr⟩) (fun h => absurd rfl h) (fun y hy => nomatch hy) rfl (.inl ⟨rfl, hbr, hcp, hI.big, rfl, R, rfl, hI.fit⟩) (.inr hob), rfl, hv.symm, rfl, .inl ⟨rfl, rfl⟩⟩
    | true =>
      have hi := his rfl
      have hx : X.items[i]? = some (X.items[i]'hi) := List.getElem?_eq_getElem hi
      refine ⟨.rw 1 X.items.length, [winE base X.items i (X.items[i]'hi)], _, mk (winE base X.items i _) ⟨r, flat (X.items.take i), flat (X.items.drop (i + 1)) ++ R, cap, none⟩ hv.symm rfl (fun _ => ⟨?_, hgr⟩) (fun h => absurd rfl h) ?_ ?_ ⟨hbr, hcp, hI.big, rfl, R, rfl, hI.fit⟩ (.inr hob), rfl, hv.symm, rfl, .inr ⟨rfl, _, hx, rfl⟩⟩
      · rw [hblk, ← win_flat hx]
        simp only [List.append_assoc]
        rfl
      · intro y hy
        simp only [winE, itS, List.mem_cons, List.not_mem_nil, or_false] at hy
        rcases hy with rfl | rfl | rfl | rfl | rfl | rfl | rfl | rfl <;> trivial
      · show (flat (X.items.take i)).length = i * 8
        rw [flat_len, List.length_take, Nat.min_eq_left (by omega)]

/-- what of the entries is the state's -/
def Of (base : Nat) (X : St) (en : List EN) (vS : SC) : Prop :=
  ((∃ p, vS = .v (.slice p 0 0)) ∧ X.items = []) ∨ ∃ d, vS = .rw d X.items.length ∧ d ≠ 0 ∧ (zD en d = some (rowE base X.items) ∨ ∃ j x, X.items[j]? = some x ∧ zD en d = some (winE base X.items j x))
theorem ws_ofP {C : Cx} {ρ : Nat → RE} {pr : Nat → Prop} {en : List EN} {w : World} {base : Nat} {X : St} {vS : SC} {now : Int} {c : Cd} {most : Int} {i : Nat} {is : Bool} (hw : Hw C ρ pr en w) (l0 : pr 0) (h0 : zD en 0 = some (woE vS X now c most i is)) (hd : Of base X en vS) (hg : base ≤ (ρ 0).blk) :
    WS base w (ρ 0).blk (vS.den ρ) X now c most i is ∧ ∀ k, oB (vS.den ρ) = some k → k ≠ (ρ 0).blk ∧ (C.S k ∨ C.w0.heap.size ≤ k) := by
  have hnl0 : (ρ 0).nl = none := Decidable.byContradiction fun hd => by have := (hw.hp 0 _ _ _ l0 h0).non hd; cases this
  have e0 := (hw.hp 0 _ _ _ l0 h0).heap ⟨(show (49 : Nat) ≠ DEAD by decide), hnl0⟩
  obtain ⟨o1, o2, o3⟩ := hw.ho 0 _ _ _ l0 h0
  have hblk : Blk w (ρ 0).blk 49 (woA (vS.den ρ) X now c most i is) := by
    unfold Blk
    rw [e0, o2, o3]
    simp only [List.nil_append, List.append_nil]
    rfl
  rcases hd with ⟨⟨p, rfl⟩, hx⟩ | ⟨d, rfl, hd0, hd⟩
  · refine ⟨⟨hblk, .inl ⟨p, rfl, hx⟩, hg⟩, fun k hk => by rw [show (SC.v (.slice p 0 0)).den ρ = .slice p 0 0 from rfl, oB_nil] at hk; cases hk⟩
  · have ld : pr d := (hw.hp 0 _ _ _ l0 h0).wf (.rw d X.items.length) (List.mem_cons_self ..)
    have on : (ρ d).nl = none → ∃ R, Items w (ρ d).blk (ρ d).cap X.items R ∧ base ≤ (ρ d).blk ∧ 0 < (ρ d).cap ∧ (C.S (ρ d).blk ∨ C.w0.heap.size ≤ (ρ d).blk) ∧ (ρ d).blk ≠ (ρ 0).blk := by
      intro hnl
      have h0l : deadE (ρ 0) (zD en 0) = false := by
        rw [deadE_of h0]
        exact ⟨(show (49 : Nat) ≠ DEAD by decide), hnl0⟩
      rcases hd with hd | ⟨j, x, hx, hd⟩
      · have e1 := (hw.hp d _ _ _ ld hd).heap ⟨(show (31 : Nat) ≠ DEAD by decide), hnl⟩
        rcases (hw.ho d _ _ _ ld hd).2 with ⟨_, q1, qc, q2, q3, R, q4, q5⟩ | ⟨hn, _⟩
        · refine ⟨R, ⟨?_, q5, q2⟩, q1, qc, hw.mu d _ _ ld hd, fun e => hd0 (hw.inj d 0 ld l0 ((deadE_of hd).2 ⟨(show (31 : Nat) ≠ DEAD by decide), hnl⟩) h0l e)⟩
          rw [e1, q3, q4]; rfl
        · exact absurd hnl hn
      · have e1 := (hw.hp d _ _ _ ld hd).heap ⟨(show (31 : Nat) ≠ DEAD by decide), hnl⟩
        obtain ⟨_, q1, qc, q2, q3, R, q4, q5⟩ := hw.ho d _ _ _ ld hd
        refine ⟨R, ⟨?_, q5, q2⟩, q1, qc, hw.mu d _ _ ld hd, fun e => hd0 (hw.inj d 0 ld l0 ((deadE_of hd).2 ⟨(show (31 : Nat) ≠ DEAD by decide), hnl⟩) h0l e)⟩
        rw [e1, q3, q4, ← win_flat hx]
        simp only [List.append_assoc]
        rfl
    cases hnl : (ρ d).nl with
    | none =>
      obtain ⟨R, hI, hbr, hcp, hS, hne⟩ := on hnl
      refine ⟨⟨hblk, .inr ⟨_, _, R, rwOf_on hnl _, hbr, hcp, hI⟩, hg⟩, fun k hk => ?_⟩
      obtain ⟨_, rfl⟩ := oB_rw hk
      exact ⟨hne, hS⟩
    | some p =>
      have hx0 : X.items = [] := by
        rcases hd with hd | ⟨j, x, hx, hd⟩
        · rcases (hw.ho d _ _ _ ld hd).2 with ⟨hn, _⟩ | ⟨_, hn, _⟩
          · rw [hnl] at hn; cases hn
          · exact hn
        · have := (hw.hp d _ _ _ ld hd).non (by rw [hnl]; simp)
          cases this
      refine ⟨⟨hblk, .inl ⟨p, ?_, hx0⟩, hg⟩, fun k hk => ?_⟩
      · show rwOf (ρ d) _ = _
        rw [rwOf_off hnl, hx0]; rfl
      · have := (oB_rw hk).1
        rw [hnl] at this; cases this
theorem ws_of {C : Cx} {ρ : Nat → RE} {en : List EN} {w : World} {base : Nat} {X : St} {vS : SC} {now : Int} {c : Cd} {most : Int} {i : Nat} {is : Bool} (hw : Hw C ρ (· < en.length) en w) (h0 : zD en 0 = some (woE vS X now c most i is)) (hd : Of base X en vS) (hg : base ≤ (ρ 0).blk) :
    WS base w (ρ 0).blk (vS.den ρ) X now c most i is ∧ ∀ k, oB (vS.den ρ) = some k → k ≠ (ρ 0).blk ∧ (C.S k ∨ C.w0.heap.size ≤ k) := by
  have l0 : 0 < en.length := by rw [nthS_eq] at h0; exact (List.getElem?_eq_some_iff.1 h0).1
  exact ws_ofP hw l0 h0 hd hg
end Go.Proofs.YtfmpdbngpknmaaaDoor
/- get where the key has an item, by the symbolic walk. -/
namespace Go.Proofs.YtfmpdbngpknmaaaDoor
set_option linter.unusedSimpArgs false
set_option linter.unusedVariables false
set_option linter.unusedSimpArgs false
set_option linter.unusedVariables false
set_option maxHeartbeats 8000000
open Go.RowKit

/-- what an operation of the model answers, and what it leaves -/
def OpR (base g : Nat) (v : Value) (X : St) (now : Int) (c : Cd) (most : Int) (i : Nat) (is : Bool) (an : An) (w : World) (e : Ending) (w' : World) : Prop :=
  e = .returned (.agg (anA an)) ∧ ∃ v', WS base w' g v' X now c most i is ∧ Upd (S0 g v) w w' ∧ ∀ k, oB v' = some k → oB v = some k ∨ w.heap.size ≤ k
theorem an_den (ρ : Nat → RE) (a : An) : (SV.g (anS a)).den ρ = .agg (anA a) := rfl
theorem opFin {C : Cx} {fn : Func} {base g : Nat} {v : Value} {X : St} {now : Int} {c : Cd} {most : Int} {i : Nat} {is : Bool} {an : An} {w : World} {ρ : Nat → RE} {n : Nat} {kp : List Nat} {rs : List ResultVar} {en : List EN} {vS : SC} {v' : SV}
    (hC : C = zL Tryd.prog fn (OpR base g v X now c most i is an w) (S0 g v) w ρ n kp) (hrs : fn.results.toList = rs) (hn : 0 < n) (hρ : ρ 0 = ⟨g, [], [], 0, none⟩) (hg : base ≤ g) (h0 : zD en 0 = some (woE vS X now c most i is)) (hd : Of base X en vS) (hv : v' = .g (anS an)) : Fin C rs v' en := by
  subst hC
  subst hv
  refine Fin_of ctx_of hrs fun ρ' w' hw _ _ => ?_
  have e0 : ρ' 0 = ⟨g, [], [], 0, none⟩ := (hw.ini 0 hn).trans hρ
  obtain ⟨h1, h2⟩ := ws_of (base := base) hw h0 hd (by rw [e0]; exact hg)
  rw [e0] at h1 h2
  refine ⟨rfl, _, h1, hw.up, fun k hk => ?_⟩
  obtain ⟨h3, h4⟩ := h2 k hk
  rcases h4 with (h4 | h4) | h4
  · exact absurd h4 h3
  · exact .inl h4
  · exact .inr h4

/-- told, moment, item, other -/
def mC1 : Ctr := fun f en xs => match f with
  | 35 => rowOther en xs
  | _ => mC0 f en xs
theorem mC1_ok {C : Cx} (hP : C.P = Tryd.prog) : CtrOk C mC1 := by
  intro f en xs p v h hp ρ w hup hHp hHo hinj hwf
  unfold mC1 at h
  split at h
  · rw [hP]; exact ⟨fun args w => Tryd.call35 args w, rowOther_ok h hp (At.roOf hHp hHo hinj) hwf⟩
  · exact mC0_ok hP f en xs p v h hp ρ w hup hHp hHo hinj hwf

set_option maxRecDepth 100000
theorem get_is (base g : Nat) (v : Value) (X : St) (now : Int) (c : Cd) (most : Int) (i : Nat) (x : It) (w : World) (h : WS base w g v X now c most i true) (hx : X.items[i]? = some x)
    (hn0 : 1 ≤ now) (hn1 : now ≤ 1099511627776) (hx0 : -4398046511104 ≤ x.exp) (hx1 : x.exp ≤ 4398046511104) :
    Calls Tryd.prog 20 #[.pointer (some ⟨g, 0, none⟩)] w (OpR base g v { X with items := X.items.set i (gotF now c x) } now c most i true ⟨1, gotF now c x, 0, winB now c x, x.stale, x.won⟩ w) := by
  have hil : i < X.items.length := (List.getElem?_eq_some_iff.1 hx).1
  have hil' : (i : Int) < (X.items.length : Int) := by omega
  obtain ⟨vS, tl, ρ, hat, hρ, hv, hsh⟩ := ws_at h (fun _ => hil)
  rcases hsh with ⟨rfl, ⟨h1, _⟩ | ⟨_, x', hx', rfl⟩⟩
  · cases h1
  obtain rfl : x = x' := by rw [hx] at hx'; exact Option.some.inj hx'
  have key := calls_of_Run (R := OpR base g v { X with items := X.items.set i (gotF now c x) } now c most i true ⟨1, gotF now c x, 0, winB now c x, x.stale, x.won⟩ w) Tryd.func20 rfl kp20 [.c (.p 0 0)] Tryd.ntmps20 hat (by simp [SV.wf, SC.wf]) (by simp) ?_
  · simpa [SV.den, SC.den, ptrOf, hρ] using key
  intro C hC hP hk
  have hctr := mC1_ok hP
  have hsub : IntKind.i64.wrap (x.exp - now) = x.exp - now := IntWalk.i64_in _ (by omega)
  have fin : ∀ (e : Int) (st wn : Bool), (⟨x.key, x.flags, x.val, e, x.cas, now, st, wn⟩ : It) = gotF now c x → ∀ a : List SC, a = anS ⟨1, gotF now c x, 0, winB now c x, x.stale, x.won⟩ → ∀ l, Fin C res20 (.g a) (woE (.rw 1 X.items.length) X now c most i true :: ⟨(31, i * 8, winI base X.items i), [.s x.key, .i .u32 x.flags, .s x.val, .i .i64 e, .i .u64 x.cas, .i .i64 now, .b st, .b wn], true⟩ :: l) := by
    intro e st wn hy a ha l
    refine opFin hC hres20 (by simp) hρ h.low (vS := .rw 1 X.items.length) rfl (.inr ⟨1, ?_, by decide, .inr ⟨i, gotF now c x, ?_, ?_⟩⟩) (by rw [ha])
    · rw [List.length_set]
    · rw [List.getElem?_set_self hil]
    · rw [← hy]; unfold winE; rw [winI_set]; rfl
  (refine VC_ok hctr (rs := res20) 300 _ _ _ ?_; simp (maxSteps := 1000000) only [VC, qA, qB, qC, qD, qE, qF, qG, qH, qI, qJ, qK, qL, qM, qN, qO, qP, qQ, qR, qS, qT, qU, qV, qW, qX, qY, qZ, qe, qf, qg, qh, qj, qk, ql, qm, qn, qo, qp, qq, qt, qu, qv, ev, qw, qy, qz, zA, zB, zC, zD, zE, zF, zG, zH, zI, zJ, TE.sv, zK, zL, zM, ↓reduceIte, reduceCtorEq, Value.oneCell', Nat.reduceEqDiff, Nat.reduceAdd, Nat.reduceLT, Nat.reduceBEq, Nat.reduceSub, Nat.reduceLeDiff, zP, zQ, zR, zS, zT, zU, zV, zW, zX, zY, zZ, za, zb, zc, zd, ze, zf, zg, zh, zi, zj, zk, zl, zm, zn, zo, zp, zq, zr, zt, zu, zw, zx, zy, zz, cE, jA, jB, cD, cO, jC, jD, jE, jF, jG, jH, jI, jJ, jK, jL, jM, jN, jO, jP, jQ, jR, jS, jT, jU, jV, jW, jX, jY, hP, hk, res20, kp20, woE, woS, winE, itS, mC1, mC0, rowItem, hil', Int.natCast_nonneg])
  by_cases hr : 0 ≤ c.recache
  · by_cases he : x.exp = 0
    · have hne : (x.exp != 0) = false := by simp [he]
      (refine Run_drawD hctr (by rw [hP]; rfl) rs20_6 [] (ensure_type_of% (Cmp.of (by simp (maxSteps := 1000000) only [VC, qA, qB, qC, qD, qE, qF, qG, qH, qI, qJ, qK, qL, qM, qN, qO, qP, qQ, qR, qS, qT, qU, qV, qW, qX, qY, qZ, qe, qf, qg, qh, qj, qk, ql, qm, qn, qo, qp, qq, qt, qu, qv, ev, qw, qy, qz, zA, zB, zC, zD, zE, zF, zG, zH, zI, zJ, TE.sv, zK, zL, zM, ↓reduceIte, reduceCtorEq, Value.oneCell', Nat.reduceEqDiff, Nat.reduceAdd, Nat.reduceLT, Nat.reduceBEq, Nat.reduceSub, Nat.reduceLeDiff, zP, zQ, zR, zS, zT, zU, zV, zW, zX, zY, zZ, za, zb, zc, zd, ze, zf, zg, zh, zi, zj, zk, zl, zm, zn, zo, zp, zq, zr, zt, zu, zw, zx, zy, zz, cE, jA, jB, cD, cO, jC, jD, jE, jF, jG, jH, jI, jJ, jK, jL, jM, jN, jO, jP, jQ, jR, jS, jT, jU, jV, jW, jX, jY, hP, woE, woS, winE, itS, mC1, mC0, rowItem, hil', Int.natCast_nonneg, hsub, hr, hne]; rfl)) "" Cmp.mk) (by kernel_rfl) (by kernel_rfl) (by first | exact lenB_one _ | kernel_rfl) (by kernel_rfl) (by rfl) (by rfl) (by first | exact firstN_self _ | rfl) (by rfl) (by simp (maxSteps := 1000000) only [VC, qA, qB, qC, qD, qE, qF, qG, qH, qI, qJ, qK, qL, qM, qN, qO, qP, qQ, qR, qS, qT, qU, qV, qW, qX, qY, qZ, qe, qf, qg, qh, qj, qk, ql, qm, qn, qo, qp, qq, qt, qu, qv, ev, qw, qy, qz, zA, zB, zC, zD, zE, zF, zG, zH, zI, zJ, TE.sv, zK, zL, zM, ↓reduceIte, reduceCtorEq, Value.oneCell', Nat.reduceEqDiff, Nat.reduceAdd, Nat.reduceLT, Nat.reduceBEq, Nat.reduceSub, Nat.reduceLeDiff, zP, zQ, zR, zS, zT, zU, zV, zW, zX, zY, zZ, za, zb, zc, zd, ze, zf, zg, zh, zi, zj, zk, zl, zm, zn, zo, zp, zq, zr, zt, zu, zw, zx, zy, zz, cE, jA, jB, cD, cO, jC, jD, jE, jF, jG, jH, jI, jJ, jK, jL, jM, jN, jO, jP, jQ, jR, jS, jT, jU, jV, jW, jX, jY, hP, woE, woS, winE, itS, mC1, mC0, rowItem, hil', Int.natCast_nonneg, hsub, hr, hne]) ?_; refine VC_ok hctr (rs := res20) 300 _ _ _ ?_; simp (maxSteps := 1000000) only [VC, qA, qB, qC, qD, qE, qF, qG, qH, qI, qJ, qK, qL, qM, qN, qO, qP, qQ, qR, qS, qT, qU, qV, qW, qX, qY, qZ, qe, qf, qg, qh, qj, qk, ql, qm, qn, qo, qp, qq, qt, qu, qv, ev, qw, qy, qz, zA, zB, zC, zD, zE, zF, zG, zH, zI, zJ, TE.sv, zK, zL, zM, ↓reduceIte, reduceCtorEq, Value.oneCell', Nat.reduceEqDiff, Nat.reduceAdd, Nat.reduceLT, Nat.reduceBEq, Nat.reduceSub, Nat.reduceLeDiff, zP, zQ, zR, zS, zT, zU, zV, zW, zX, zY, zZ, za, zb, zc, zd, ze, zf, zg, zh, zi, zj, zk, zl, zm, zn, zo, zp, zq, zr, zt, zu, zw, zx, zy, zz, cE, jA, jB, cD, cO, jC, jD, jE, jF, jG, jH, jI, jJ, jK, jL, jM, jN, jO, jP, jQ, jR, jS, jT, jU, jV, jW, jX, jY, hP, hk, res20, kp20, woE, woS, winE, itS, mC1, mC0, rowItem, hil', Int.natCast_nonneg, hsub, hr, hne])
      cases hw : x.won <;> cases hs : x.stale
      all_goals
        (refine Run_drawD hctr (by rw [hP]; rfl) rs20_7 [] (ensure_type_of% (Cmp.of (by simp (maxSteps := 1000000) only [VC, qA, qB, qC, qD, qE, qF, qG, qH, qI, qJ, qK, qL, qM, qN, qO, qP, qQ, qR, qS, qT, qU, qV, qW, qX, qY, qZ, qe, qf, qg, qh, qj, qk, ql, qm, qn, qo, qp, qq, qt, qu, qv, ev, qw, qy, qz, zA, zB, zC, zD, zE, zF, zG, zH, zI, zJ, TE.sv, zK, zL, zM, ↓reduceIte, reduceCtorEq, Value.oneCell', Nat.reduceEqDiff, Nat.reduceAdd, Nat.reduceLT, Nat.reduceBEq, Nat.reduceSub, Nat.reduceLeDiff, zP, zQ, zR, zS, zT, zU, zV, zW, zX, zY, zZ, za, zb, zc, zd, ze, zf, zg, zh, zi, zj, zk, zl, zm, zn, zo, zp, zq, zr, zt, zu, zw, zx, zy, zz, cE, jA, jB, cD, cO, jC, jD, jE, jF, jG, jH, jI, jJ, jK, jL, jM, jN, jO, jP, jQ, jR, jS, jT, jU, jV, jW, jX, jY, hP, mC1, mC0, rowItem, rowMoment, hw, hs, hn0, hn1]; rfl)) "" Cmp.mk) (by kernel_rfl) (by kernel_rfl) (by first | exact lenB_one _ | kernel_rfl) (by kernel_rfl) (by rfl) (by rfl) (by first | exact firstN_self _ | rfl) (by rfl) (by simp (maxSteps := 1000000) only [VC, qA, qB, qC, qD, qE, qF, qG, qH, qI, qJ, qK, qL, qM, qN, qO, qP, qQ, qR, qS, qT, qU, qV, qW, qX, qY, qZ, qe, qf, qg, qh, qj, qk, ql, qm, qn, qo, qp, qq, qt, qu, qv, ev, qw, qy, qz, zA, zB, zC, zD, zE, zF, zG, zH, zI, zJ, TE.sv, zK, zL, zM, ↓reduceIte, reduceCtorEq, Value.oneCell', Nat.reduceEqDiff, Nat.reduceAdd, Nat.reduceLT, Nat.reduceBEq, Nat.reduceSub, Nat.reduceLeDiff, zP, zQ, zR, zS, zT, zU, zV, zW, zX, zY, zZ, za, zb, zc, zd, ze, zf, zg, zh, zi, zj, zk, zl, zm, zn, zo, zp, zq, zr, zt, zu, zw, zx, zy, zz, cE, jA, jB, cD, cO, jC, jD, jE, jF, jG, jH, jI, jJ, jK, jL, jM, jN, jO, jP, jQ, jR, jS, jT, jU, jV, jW, jX, jY, hP, mC1, mC0, rowItem, rowMoment, hw, hs, hn0, hn1]) ?_; refine VC_ok hctr (rs := res20) 300 _ _ _ ?_; simp (maxSteps := 1000000) only [VC, qA, qB, qC, qD, qE, qF, qG, qH, qI, qJ, qK, qL, qM, qN, qO, qP, qQ, qR, qS, qT, qU, qV, qW, qX, qY, qZ, qe, qf, qg, qh, qj, qk, ql, qm, qn, qo, qp, qq, qt, qu, qv, ev, qw, qy, qz, zA, zB, zC, zD, zE, zF, zG, zH, zI, zJ, TE.sv, zK, zL, zM, ↓reduceIte, reduceCtorEq, Value.oneCell', Nat.reduceEqDiff, Nat.reduceAdd, Nat.reduceLT, Nat.reduceBEq, Nat.reduceSub, Nat.reduceLeDiff, zP, zQ, zR, zS, zT, zU, zV, zW, zX, zY, zZ, za, zb, zc, zd, ze, zf, zg, zh, zi, zj, zk, zl, zm, zn, zo, zp, zq, zr, zt, zu, zw, zx, zy, zz, cE, jA, jB, cD, cO, jC, jD, jE, jF, jG, jH, jI, jJ, jK, jL, jM, jN, jO, jP, jQ, jR, jS, jT, jU, jV, jW, jX, jY, hP, hk, res20, kp20, mC1, mC0, rowItem, rowMoment, hw, hs, hn0, hn1])
        refine ⟨fun hexp => fin (momF now c.exp) _ _ ?_ _ ?_ _, fun hexp => fin x.exp _ _ ?_ _ ?_ _⟩ <;> simp [gotF, winB, soonB, anS, hexp, hw, hs, hr, he]
    · have hne : (x.exp != 0) = true := by simpa using he
      (refine Run_drawD hctr (by rw [hP]; rfl) rs20_6 [] (ensure_type_of% (Cmp.of (by simp (maxSteps := 1000000) only [VC, qA, qB, qC, qD, qE, qF, qG, qH, qI, qJ, qK, qL, qM, qN, qO, qP, qQ, qR, qS, qT, qU, qV, qW, qX, qY, qZ, qe, qf, qg, qh, qj, qk, ql, qm, qn, qo, qp, qq, qt, qu, qv, ev, qw, qy, qz, zA, zB, zC, zD, zE, zF, zG, zH, zI, zJ, TE.sv, zK, zL, zM, ↓reduceIte, reduceCtorEq, Value.oneCell', Nat.reduceEqDiff, Nat.reduceAdd, Nat.reduceLT, Nat.reduceBEq, Nat.reduceSub, Nat.reduceLeDiff, zP, zQ, zR, zS, zT, zU, zV, zW, zX, zY, zZ, za, zb, zc, zd, ze, zf, zg, zh, zi, zj, zk, zl, zm, zn, zo, zp, zq, zr, zt, zu, zw, zx, zy, zz, cE, jA, jB, cD, cO, jC, jD, jE, jF, jG, jH, jI, jJ, jK, jL, jM, jN, jO, jP, jQ, jR, jS, jT, jU, jV, jW, jX, jY, hP, woE, woS, winE, itS, mC1, mC0, rowItem, hil', Int.natCast_nonneg, hsub, hr, hne]; rfl)) "" Cmp.mk) (by kernel_rfl) (by kernel_rfl) (by first | exact lenB_one _ | kernel_rfl) (by kernel_rfl) (by rfl) (by rfl) (by first | exact firstN_self _ | rfl) (by rfl) (by simp (maxSteps := 1000000) only [VC, qA, qB, qC, qD, qE, qF, qG, qH, qI, qJ, qK, qL, qM, qN, qO, qP, qQ, qR, qS, qT, qU, qV, qW, qX, qY, qZ, qe, qf, qg, qh, qj, qk, ql, qm, qn, qo, qp, qq, qt, qu, qv, ev, qw, qy, qz, zA, zB, zC, zD, zE, zF, zG, zH, zI, zJ, TE.sv, zK, zL, zM, ↓reduceIte, reduceCtorEq, Value.oneCell', Nat.reduceEqDiff, Nat.reduceAdd, Nat.reduceLT, Nat.reduceBEq, Nat.reduceSub, Nat.reduceLeDiff, zP, zQ, zR, zS, zT, zU, zV, zW, zX, zY, zZ, za, zb, zc, zd, ze, zf, zg, zh, zi, zj, zk, zl, zm, zn, zo, zp, zq, zr, zt, zu, zw, zx, zy, zz, cE, jA, jB, cD, cO, jC, jD, jE, jF, jG, jH, jI, jJ, jK, jL, jM, jN, jO, jP, jQ, jR, jS, jT, jU, jV, jW, jX, jY, hP, woE, woS, winE, itS, mC1, mC0, rowItem, hil', Int.natCast_nonneg, hsub, hr, hne]) ?_; refine VC_ok hctr (rs := res20) 300 _ _ _ ?_; simp (maxSteps := 1000000) only [VC, qA, qB, qC, qD, qE, qF, qG, qH, qI, qJ, qK, qL, qM, qN, qO, qP, qQ, qR, qS, qT, qU, qV, qW, qX, qY, qZ, qe, qf, qg, qh, qj, qk, ql, qm, qn, qo, qp, qq, qt, qu, qv, ev, qw, qy, qz, zA, zB, zC, zD, zE, zF, zG, zH, zI, zJ, TE.sv, zK, zL, zM, ↓reduceIte, reduceCtorEq, Value.oneCell', Nat.reduceEqDiff, Nat.reduceAdd, Nat.reduceLT, Nat.reduceBEq, Nat.reduceSub, Nat.reduceLeDiff, zP, zQ, zR, zS, zT, zU, zV, zW, zX, zY, zZ, za, zb, zc, zd, ze, zf, zg, zh, zi, zj, zk, zl, zm, zn, zo, zp, zq, zr, zt, zu, zw, zx, zy, zz, cE, jA, jB, cD, cO, jC, jD, jE, jF, jG, jH, jI, jJ, jK, jL, jM, jN, jO, jP, jQ, jR, jS, jT, jU, jV, jW, jX, jY, hP, hk, res20, kp20, woE, woS, winE, itS, mC1, mC0, rowItem, hil', Int.natCast_nonneg, hsub, hr, hne])
      cases hw : x.won <;> cases hs : x.stale
      all_goals
        (refine Run_drawD hctr (by rw [hP]; rfl) rs20_7 [] (ensure_type_of% (Cmp.of (by simp (maxSteps := 1000000) only [VC, qA, qB, qC, qD, qE, qF, qG, qH, qI, qJ, qK, qL, qM, qN, qO, qP, qQ, qR, qS, qT, qU, qV, qW, qX, qY, qZ, qe, qf, qg, qh, qj, qk, ql, qm, qn, qo, qp, qq, qt, qu, qv, ev, qw, qy, qz, zA, zB, zC, zD, zE, zF, zG, zH, zI, zJ, TE.sv, zK, zL, zM, ↓reduceIte, reduceCtorEq, Value.oneCell', Nat.reduceEqDiff, Nat.reduceAdd, Nat.reduceLT, Nat.reduceBEq, Nat.reduceSub, Nat.reduceLeDiff, zP, zQ, zR, zS, zT, zU, zV, zW, zX, zY, zZ, za, zb, zc, zd, ze, zf, zg, zh, zi, zj, zk, zl, zm, zn, zo, zp, zq, zr, zt, zu, zw, zx, zy, zz, cE, jA, jB, cD, cO, jC, jD, jE, jF, jG, jH, jI, jJ, jK, jL, jM, jN, jO, jP, jQ, jR, jS, jT, jU, jV, jW, jX, jY, hP, mC1, mC0, rowItem, rowMoment, hw, hs, hn0, hn1]; rfl)) "" Cmp.mk) (by kernel_rfl) (by kernel_rfl) (by first | exact lenB_one _ | kernel_rfl) (by kernel_rfl) (by rfl) (by rfl) (by first | exact firstN_self _ | rfl) (by rfl) (by simp (maxSteps := 1000000) only [VC, qA, qB, qC, qD, qE, qF, qG, qH, qI, qJ, qK, qL, qM, qN, qO, qP, qQ, qR, qS, qT, qU, qV, qW, qX, qY, qZ, qe, qf, qg, qh, qj, qk, ql, qm, qn, qo, qp, qq, qt, qu, qv, ev, qw, qy, qz, zA, zB, zC, zD, zE, zF, zG, zH, zI, zJ, TE.sv, zK, zL, zM, ↓reduceIte, reduceCtorEq, Value.oneCell', Nat.reduceEqDiff, Nat.reduceAdd, Nat.reduceLT, Nat.reduceBEq, Nat.reduceSub, Nat.reduceLeDiff, zP, zQ, zR, zS, zT, zU, zV, zW, zX, zY, zZ, za, zb, zc, zd, ze, zf, zg, zh, zi, zj, zk, zl, zm, zn, zo, zp, zq, zr, zt, zu, zw, zx, zy, zz, cE, jA, jB, cD, cO, jC, jD, jE, jF, jG, jH, jI, jJ, jK, jL, jM, jN, jO, jP, jQ, jR, jS, jT, jU, jV, jW, jX, jY, hP, mC1, mC0, rowItem, rowMoment, hw, hs, hn0, hn1]) ?_; refine VC_ok hctr (rs := res20) 300 _ _ _ ?_; simp (maxSteps := 1000000) only [VC, qA, qB, qC, qD, qE, qF, qG, qH, qI, qJ, qK, qL, qM, qN, qO, qP, qQ, qR, qS, qT, qU, qV, qW, qX, qY, qZ, qe, qf, qg, qh, qj, qk, ql, qm, qn, qo, qp, qq, qt, qu, qv, ev, qw, qy, qz, zA, zB, zC, zD, zE, zF, zG, zH, zI, zJ, TE.sv, zK, zL, zM, ↓reduceIte, reduceCtorEq, Value.oneCell', Nat.reduceEqDiff, Nat.reduceAdd, Nat.reduceLT, Nat.reduceBEq, Nat.reduceSub, Nat.reduceLeDiff, zP, zQ, zR, zS, zT, zU, zV, zW, zX, zY, zZ, za, zb, zc, zd, ze, zf, zg, zh, zi, zj, zk, zl, zm, zn, zo, zp, zq, zr, zt, zu, zw, zx, zy, zz, cE, jA, jB, cD, cO, jC, jD, jE, jF, jG, jH, jI, jJ, jK, jL, jM, jN, jO, jP, jQ, jR, jS, jT, jU, jV, jW, jX, jY, hP, hk, res20, kp20, mC1, mC0, rowItem, rowMoment, hw, hs, hn0, hn1])
        refine ⟨fun hexp => fin (momF now c.exp) _ _ ?_ _ ?_ _, fun hexp => fin x.exp _ _ ?_ _ ?_ _⟩ <;> simp [gotF, winB, soonB, anS, hexp, hw, hs, hr, he]
  · (refine Run_drawD hctr (by rw [hP]; rfl) rs20_6 [] (ensure_type_of% (Cmp.of (by simp (maxSteps := 1000000) only [VC, qA, qB, qC, qD, qE, qF, qG, qH, qI, qJ, qK, qL, qM, qN, qO, qP, qQ, qR, qS, qT, qU, qV, qW, qX, qY, qZ, qe, qf, qg, qh, qj, qk, ql, qm, qn, qo, qp, qq, qt, qu, qv, ev, qw, qy, qz, zA, zB, zC, zD, zE, zF, zG, zH, zI, zJ, TE.sv, zK, zL, zM, ↓reduceIte, reduceCtorEq, Value.oneCell', Nat.reduceEqDiff, Nat.reduceAdd, Nat.reduceLT, Nat.reduceBEq, Nat.reduceSub, Nat.reduceLeDiff, zP, zQ, zR, zS, zT, zU, zV, zW, zX, zY, zZ, za, zb, zc, zd, ze, zf, zg, zh, zi, zj, zk, zl, zm, zn, zo, zp, zq, zr, zt, zu, zw, zx, zy, zz, cE, jA, jB, cD, cO, jC, jD, jE, jF, jG, jH, jI, jJ, jK, jL, jM, jN, jO, jP, jQ, jR, jS, jT, jU, jV, jW, jX, jY, hP, woE, woS, winE, itS, mC1, mC0, rowItem, hil', Int.natCast_nonneg, hsub, hr]; rfl)) "" Cmp.mk) (by kernel_rfl) (by kernel_rfl) (by first | exact lenB_one _ | kernel_rfl) (by kernel_rfl) (by rfl) (by rfl) (by first | exact firstN_self _ | rfl) (by rfl) (by simp (maxSteps := 1000000) only [VC, qA, qB, qC, qD, qE, qF, qG, qH, qI, qJ, qK, qL, qM, qN, qO, qP, qQ, qR, qS, qT, qU, qV, qW, qX, qY, qZ, qe, qf, qg, qh, qj, qk, ql, qm, qn, qo, qp, qq, qt, qu, qv, ev, qw, qy, qz, zA, zB, zC, zD, zE, zF, zG, zH, zI, zJ, TE.sv, zK, zL, zM, ↓reduceIte, reduceCtorEq, Value.oneCell', Nat.reduceEqDiff, Nat.reduceAdd, Nat.reduceLT, Nat.reduceBEq, Nat.reduceSub, Nat.reduceLeDiff, zP, zQ, zR, zS, zT, zU, zV, zW, zX, zY, zZ, za, zb, zc, zd, ze, zf, zg, zh, zi, zj, zk, zl, zm, zn, zo, zp, zq, zr, zt, zu, zw, zx, zy, zz, cE, jA, jB, cD, cO, jC, jD, jE, jF, jG, jH, jI, jJ, jK, jL, jM, jN, jO, jP, jQ, jR, jS, jT, jU, jV, jW, jX, jY, hP, woE, woS, winE, itS, mC1, mC0, rowItem, hil', Int.natCast_nonneg, hsub, hr]) ?_; refine VC_ok hctr (rs := res20) 300 _ _ _ ?_; simp (maxSteps := 1000000) only [VC, qA, qB, qC, qD, qE, qF, qG, qH, qI, qJ, qK, qL, qM, qN, qO, qP, qQ, qR, qS, qT, qU, qV, qW, qX, qY, qZ, qe, qf, qg, qh, qj, qk, ql, qm, qn, qo, qp, qq, qt, qu, qv, ev, qw, qy, qz, zA, zB, zC, zD, zE, zF, zG, zH, zI, zJ, TE.sv, zK, zL, zM, ↓reduceIte, reduceCtorEq, Value.oneCell', Nat.reduceEqDiff, Nat.reduceAdd, Nat.reduceLT, Nat.reduceBEq, Nat.reduceSub, Nat.reduceLeDiff, zP, zQ, zR, zS, zT, zU, zV, zW, zX, zY, zZ, za, zb, zc, zd, ze, zf, zg, zh, zi, zj, zk, zl, zm, zn, zo, zp, zq, zr, zt, zu, zw, zx, zy, zz, cE, jA, jB, cD, cO, jC, jD, jE, jF, jG, jH, jI, jJ, jK, jL, jM, jN, jO, jP, jQ, jR, jS, jT, jU, jV, jW, jX, jY, hP, hk, res20, kp20, woE, woS, winE, itS, mC1, mC0, rowItem, hil', Int.natCast_nonneg, hsub, hr])
    cases hw : x.won <;> cases hs : x.stale
    all_goals
      (refine Run_drawD hctr (by rw [hP]; rfl) rs20_7 [] (ensure_type_of% (Cmp.of (by simp (maxSteps := 1000000) only [VC, qA, qB, qC, qD, qE, qF, qG, qH, qI, qJ, qK, qL, qM, qN, qO, qP, qQ, qR, qS, qT, qU, qV, qW, qX, qY, qZ, qe, qf, qg, qh, qj, qk, ql, qm, qn, qo, qp, qq, qt, qu, qv, ev, qw, qy, qz, zA, zB, zC, zD, zE, zF, zG, zH, zI, zJ, TE.sv, zK, zL, zM, ↓reduceIte, reduceCtorEq, Value.oneCell', Nat.reduceEqDiff, Nat.reduceAdd, Nat.reduceLT, Nat.reduceBEq, Nat.reduceSub, Nat.reduceLeDiff, zP, zQ, zR, zS, zT, zU, zV, zW, zX, zY, zZ, za, zb, zc, zd, ze, zf, zg, zh, zi, zj, zk, zl, zm, zn, zo, zp, zq, zr, zt, zu, zw, zx, zy, zz, cE, jA, jB, cD, cO, jC, jD, jE, jF, jG, jH, jI, jJ, jK, jL, jM, jN, jO, jP, jQ, jR, jS, jT, jU, jV, jW, jX, jY, hP, mC1, mC0, rowItem, rowMoment, hw, hs, hn0, hn1]; rfl)) "" Cmp.mk) (by kernel_rfl) (by kernel_rfl) (by first | exact lenB_one _ | kernel_rfl) (by kernel_rfl) (by rfl) (by rfl) (by first | exact firstN_self _ | rfl) (by rfl) (by simp (maxSteps := 1000000) only [VC, qA, qB, qC, qD, qE, qF, qG, qH, qI, qJ, qK, qL, qM, qN, qO, qP, qQ, qR, qS, qT, qU, qV, qW, qX, qY, qZ, qe, qf, qg, qh, qj, qk, ql, qm, qn, qo, qp, qq, qt, qu, qv, ev, qw, qy, qz, zA, zB, zC, zD, zE, zF, zG, zH, zI, zJ, TE.sv, zK, zL, zM, ↓reduceIte, reduceCtorEq, Value.oneCell', Nat.reduceEqDiff, Nat.reduceAdd, Nat.reduceLT, Nat.reduceBEq, Nat.reduceSub, Nat.reduceLeDiff, zP, zQ, zR, zS, zT, zU, zV, zW, zX, zY, zZ, za, zb, zc, zd, ze, zf, zg, zh, zi, zj, zk, zl, zm, zn, zo, zp, zq, zr, zt, zu, zw, zx, zy, zz, cE, jA, jB, cD, cO, jC, jD, jE, jF, jG, jH, jI, jJ, jK, jL, jM, jN, jO, jP, jQ, jR, jS, jT, jU, jV, jW, jX, jY, hP, mC1, mC0, rowItem, rowMoment, hw, hs, hn0, hn1]) ?_; refine VC_ok hctr (rs := res20) 300 _ _ _ ?_; simp (maxSteps := 1000000) only [VC, qA, qB, qC, qD, qE, qF, qG, qH, qI, qJ, qK, qL, qM, qN, qO, qP, qQ, qR, qS, qT, qU, qV, qW, qX, qY, qZ, qe, qf, qg, qh, qj, qk, ql, qm, qn, qo, qp, qq, qt, qu, qv, ev, qw, qy, qz, zA, zB, zC, zD, zE, zF, zG, zH, zI, zJ, TE.sv, zK, zL, zM, ↓reduceIte, reduceCtorEq, Value.oneCell', Nat.reduceEqDiff, Nat.reduceAdd, Nat.reduceLT, Nat.reduceBEq, Nat.reduceSub, Nat.reduceLeDiff, zP, zQ, zR, zS, zT, zU, zV, zW, zX, zY, zZ, za, zb, zc, zd, ze, zf, zg, zh, zi, zj, zk, zl, zm, zn, zo, zp, zq, zr, zt, zu, zw, zx, zy, zz, cE, jA, jB, cD, cO, jC, jD, jE, jF, jG, jH, jI, jJ, jK, jL, jM, jN, jO, jP, jQ, jR, jS, jT, jU, jV, jW, jX, jY, hP, hk, res20, kp20, mC1, mC0, rowItem, rowMoment, hw, hs, hn0, hn1])
      refine ⟨fun hexp => fin (momF now c.exp) _ _ ?_ _ ?_ _, fun hexp => fin x.exp _ _ ?_ _ ?_ _⟩ <;> simp [gotF, winB, soonB, anS, hexp, hw, hs, hr]
end Go.Proofs.YtfmpdbngpknmaaaDoor
/- put, as a call in a walk. -/
namespace Go.Proofs.YtfmpdbngpknmaaaDoor
set_option linter.unusedSimpArgs false
set_option linter.unusedVariables false
open Go.RowKit

/-- an entry that is no more -/
def deadOf (e : EN) : EN := ⟨(DEAD, e.ty.2.1, e.ty.2.2), [], false⟩
/-- entries where the row has moved: the old row's is no more, a new one stands last -/
def Moved (N : Nat) (en en' : List EN) (vS : SC) (z0 zN : EN) : Prop :=
  zD en' 0 = some z0 ∧ zD en' N = some zN ∧
  ∀ q, q ≠ 0 → q ≠ N → ((∀ n, vS ≠ .rw q n) ∧ zD en' q = zD en q) ∨ ((∃ n, vS = .rw q n) ∧ ∃ e, zD en q = some e ∧ zD en' q = some (deadOf e))

/-- entries once the row has moved to block r -/
theorem moved_ok {C : Cx} {ρ : Nat → RE} {pr : Nat → Prop} {en en' : List EN} {w w' : World} {base : Nat} {X X' : St} {vS : SC} {now : Int} {c : Cd} {most : Int} {i : Nat} {is : Bool} {x : It} {r cap N : Nat}
    (hw : Hw C ρ pr en w) (l0 : pr 0) (lN : ¬ pr N) (h0 : zD en 0 = some (woE vS X now c most i is)) (hd : Of base X en vS) (hg : base ≤ (ρ 0).blk)
    (hn0 : C.n0 ≤ N)
    (hm : Moved N en en' vS (woE (.rw N X'.items.length) X' now c most i is) (winE base X'.items i x)) (hx : X'.items[i]? = some x)
    (hW : WS base w' (ρ 0).blk (.slice (some ⟨r, 0, none⟩) X'.items.length cap) X' now c most i is) (hU : Upd (fun k => k = (ρ 0).blk ∨ oB (vS.den ρ) = some k) w w') (hr : oB (vS.den ρ) = some r ∨ w.heap.size ≤ r) :
    ∃ ρ', (∀ q, pr q → ρ' q = ρ q) ∧ ρ' N = ⟨r, flat (X'.items.take i), (ρ' N).post, cap, none⟩ ∧ Hw C ρ' (fun q => pr q ∨ q = N) en' w' := by
  obtain ⟨hws, hown⟩ := ws_ofP hw l0 h0 hd hg
  obtain ⟨m0, mN, mq⟩ := hm
  have hblk' : Blk w' (ρ 0).blk _ _ := hW.blk
  unfold Blk at hblk'
  rcases hW.own with ⟨p', hv, h0'⟩ | ⟨r', cap', R, hv, hbr, hcp, hI⟩
  · rw [h0'] at hx; cases hx
  injection hv with hv1 hv2 hv3
  injection hv1 with hv1
  injection hv1 with hv1
  subst hv1
  subst hv3
  have hup : Upd C.S C.w0 w' := by
    refine hw.up.trans hU fun k hk hT => ?_
    rcases hT with rfl | hT
    · exact (hw.mu 0 _ _ l0 h0).resolve_right (by omega)
    · exact (hown k hT).2.resolve_right (by omega)
  have hne0 : r ≠ (ρ 0).blk := by
    rcases hr with hr | hr
    · exact (hown r hr).1
    · have := hws.blk.lt; omega
  obtain ⟨ρ', hρ'⟩ : ∃ ρ' : Nat → RE, ρ' = fun q => if q = N then ⟨r, flat (X'.items.take i), flat (X'.items.drop (i + 1)) ++ R, cap, none⟩ else ρ q := ⟨_, rfl⟩
  have hold : ∀ q, pr q → ρ' q = ρ q := by
    intro q hq
    simp only [hρ']
    exact if_neg (fun h : q = N => lN (h ▸ hq))
  have hnew : ρ' N = ⟨r, flat (X'.items.take i), flat (X'.items.drop (i + 1)) ++ R, cap, none⟩ := by simp only [hρ', if_true]
  have z0 : (0 : Nat) ≠ N := fun h => lN (h ▸ l0)
  -- what an old entry is now
  have hcase : ∀ q ty cells mu, (pr q ∨ q = N) → zD en' q = some ⟨ty, cells, mu⟩ →
      (q = 0 ∧ (⟨ty, cells, mu⟩ : EN) = woE (.rw N X'.items.length) X' now c most i is) ∨ (q = N ∧ (⟨ty, cells, mu⟩ : EN) = winE base X'.items i x) ∨
      (pr q ∧ q ≠ 0 ∧ q ≠ N ∧ (∀ n, vS ≠ .rw q n) ∧ zD en q = some ⟨ty, cells, mu⟩) ∨ (pr q ∧ q ≠ 0 ∧ q ≠ N ∧ (∃ n, vS = .rw q n) ∧ ∃ e, zD en q = some e ∧ (⟨ty, cells, mu⟩ : EN) = deadOf e) := by
    intro q ty cells mu hq he
    by_cases hqN : q = N
    · subst hqN
      exact .inr (.inl ⟨rfl, by rw [mN] at he; exact (Option.some.inj he).symm⟩)
    by_cases hq0 : q = 0
    · subst hq0
      exact .inl ⟨rfl, by rw [m0] at he; exact (Option.some.inj he).symm⟩
    have hq' := hq.resolve_right hqN
    rcases mq q hq0 hqN with ⟨h1, h2⟩ | ⟨h1, e, h2, h3⟩
    · exact .inr (.inr (.inl ⟨hq', hq0, hqN, h1, h2 ▸ he⟩))
    · exact .inr (.inr (.inr ⟨hq', hq0, hqN, h1, e, h2, by rw [h3] at he; exact (Option.some.inj he).symm⟩))
  -- an old live entry lies elsewhere
  have hnl0 : (ρ 0).nl = none := Decidable.byContradiction fun hd => by have := (hw.hp 0 _ _ _ l0 h0).non hd; cases this
  have h0l : deadE (ρ 0) (zD en 0) = false := (deadE_of h0).2 ⟨(show (49 : Nat) ≠ DEAD by decide), hnl0⟩
  have hoff : ∀ q, pr q → q ≠ 0 → (∀ n, vS ≠ .rw q n) → deadE (ρ q) (zD en q) = false → (ρ q).blk ≠ (ρ 0).blk ∧ oB (vS.den ρ) ≠ some (ρ q).blk := by
    intro q hq hq0 hv hl
    refine ⟨fun h => hq0 (hw.inj q 0 hq l0 hl h0l h), fun h => ?_⟩
    rcases hd with ⟨⟨p, rfl⟩, _⟩ | ⟨d, rfl, _, hd⟩
    · rw [show (SC.v (.slice p 0 0)).den ρ = .slice p 0 0 from rfl, oB_nil] at h; cases h
    · obtain ⟨hdn, hb⟩ := oB_rw h
      have pd : pr d := (hw.hp 0 _ _ _ l0 h0).wf (.rw d X.items.length) (List.mem_cons_self ..)
      have : d = q := hw.inj d q pd hq (by rcases hd with hd | ⟨_, _, _, hd⟩ <;> exact (deadE_of hd).2 ⟨(show (31 : Nat) ≠ DEAD by decide), hdn⟩) hl hb
      subst this
      exact hv _ rfl
  have hlive : ∀ q ty cells mu, zD en q = some ⟨ty, cells, mu⟩ → ty.1 ≠ DEAD ∧ (ρ q).nl = none → deadE (ρ q) (zD en q) = false := fun q ty cells mu he hl => (deadE_of he).2 hl
  refine ⟨ρ', hold, by rw [hnew], ?_, ?_, ?_, hup, ?_, ?_⟩
  · intro q ty cells mu hq he
    rcases hcase q ty cells mu hq he with ⟨rfl, h⟩ | ⟨rfl, h⟩ | ⟨hq', hq0, hqN, hv, h⟩ | ⟨hq', hq0, hqN, hv, e, h, h2⟩
    · simp only [woE, EN.mk.injEq] at h
      obtain ⟨rfl, rfl, rfl⟩ := h
      refine ⟨fun _ => ?_, by intro y hy; simp only [woS, List.mem_cons, List.not_mem_nil, or_false] at hy; rcases hy with rfl | rfl | rfl | rfl | rfl | rfl | rfl | rfl | rfl | rfl | rfl | rfl | rfl | rfl | rfl | rfl | rfl | rfl | rfl | rfl | rfl | rfl | rfl <;> first | trivial | exact Or.inr rfl, fun hd => absurd hd (by decide), by rw [hold 0 l0]; exact fun h => absurd hnl0 h⟩
      obtain ⟨_, o2, o3⟩ := hw.ho 0 _ _ _ l0 h0
      rw [hold 0 l0, o2, o3, List.nil_append, List.append_nil, hblk']
      show some (Obj.cells (woA _ X' now c most i is) _ _) = _
      have : (SC.rw N X'.items.length).den ρ' = .slice (some ⟨r, 0, none⟩) X'.items.length cap   := by simp [SC.den, hnew, rwOf]
      rw [← this]
      rfl
    · simp only [winE, EN.mk.injEq] at h
      obtain ⟨rfl, rfl, rfl⟩ := h
      refine ⟨fun _ => ?_, by intro y hy; simp only [itS, List.mem_cons, List.not_mem_nil, or_false] at hy; rcases hy with rfl | rfl | rfl | rfl | rfl | rfl | rfl | rfl <;> trivial, fun hd => absurd (show (31 : Nat) = DEAD from hd) (by decide), by rw [hnew]; exact fun h => absurd rfl h⟩
      rw [hnew, hI.heap, ← win_flat hx]
      simp only [List.append_assoc]
      rfl
    · have hp := hw.hp q ty cells mu hq' h
      refine ⟨fun hl => ?_, wfs_mono hp.wf (fun _ h => Or.inl h), hp.dead, by rw [hold q hq']; exact hp.non⟩
      rw [hold q hq'] at hl
      obtain ⟨k1, k2⟩ := hoff q hq' hq0 hv (hlive _ _ _ _ h hl)
      rw [hold q hq', dens_congr hp.wf hold, hU.block _ (hw.lt hq' (hlive _ _ _ _ h hl)) (by rintro (h | h); exact k1 h; exact k2 h)]
      exact hp.heap hl
    · simp only [deadOf, EN.mk.injEq] at h2
      obtain ⟨rfl, rfl, rfl⟩ := h2
      exact ⟨fun hl => absurd rfl hl.1, (fun y hy => nomatch hy), fun _ => ⟨rfl, rfl⟩, fun _ => rfl⟩
  · intro q ty cells mu hq he
    rcases hcase q ty cells mu hq he with ⟨rfl, h⟩ | ⟨rfl, h⟩ | ⟨hq', hq0, hqN, hv, h⟩ | ⟨hq', hq0, hqN, hv, e, h, h2⟩
    · simp only [woE, EN.mk.injEq] at h
      obtain ⟨rfl, rfl, rfl⟩ := h
      rw [hold 0 l0]
      exact hw.ho 0 _ _ _ l0 h0
    · simp only [winE, EN.mk.injEq] at h
      obtain ⟨rfl, rfl, rfl⟩ := h
      have hi : i < X'.items.length := (List.getElem?_eq_some_iff.1 hx).1
      rw [hnew]
      exact ⟨by rw [flat_len, List.length_take, Nat.min_eq_left (by omega)], hbr, hcp, hI.big, rfl, R, rfl, hI.fit⟩
    · rw [hold q hq']
      exact hw.ho q _ _ _ hq' h
    · cases e
      simp only [deadOf, EN.mk.injEq] at h2
      obtain ⟨rfl, rfl, rfl⟩ := h2
      rw [hold q hq']
      have h3 := hw.ho q _ _ _ hq' h
      exact h3
  · have hlv : ∀ q, pr q → q ≠ 0 → deadE (ρ q) (zD en' q) = false → (∀ n, vS ≠ .rw q n) ∧ zD en' q = zD en q := by
      intro q hq hq0 hl
      rcases mq q hq0 (fun h => lN (h ▸ hq)) with h | ⟨_, e, _, h3⟩
      · exact h
      · rw [h3] at hl; exact absurd hl (by simp [deadOf, deadE])
    have hNo : ∀ q, pr q → deadE (ρ q) (zD en' q) = false → (ρ q).blk ≠ r := by
      intro q hq hl hb
      by_cases hq0 : q = 0
      · subst hq0; exact hne0 hb.symm
      · obtain ⟨k1, k2⟩ := hlv q hq hq0 hl
        rw [k2] at hl
        rcases hr with hr | hr
        · exact (hoff q hq hq0 k1 hl).2 (by rw [hb]; exact hr)
        · have := hw.lt hq hl; omega
    intro q d hq hd hql hdl hb
    rcases hq with hq | rfl <;> rcases hd with hd | rfl
    · rw [hold q hq, hold d hd] at hb
      rw [hold q hq] at hql
      rw [hold d hd] at hdl
      have hl : ∀ z, pr z → deadE (ρ z) (zD en' z) = false → deadE (ρ z) (zD en z) = false := by
        intro z hz hl
        by_cases hz0 : z = 0
        · subst hz0; exact h0l
        · rw [← (hlv z hz hz0 hl).2]; exact hl
      exact hw.inj q d hq hd (hl q hq hql) (hl d hd hdl) hb
    · rw [hold q hq, hnew] at hb; rw [hold q hq] at hql; exact absurd hb (hNo q hq hql)
    · rw [hold d hd, hnew] at hb; rw [hold d hd] at hdl; exact absurd hb.symm (hNo d hd hdl)
    · rfl
  · intro q ty cells hq he
    rcases hcase q ty cells true hq he with ⟨rfl, h⟩ | ⟨rfl, h⟩ | ⟨hq', hq0, hqN, hv, h⟩ | ⟨hq', hq0, hqN, hv, e, h, h2⟩
    · rw [hold 0 l0]; exact hw.mu 0 _ _ l0 h0
    · rw [hnew]
      rcases hr with hr | hr
      · exact (hown r hr).2
      · have := hw.up.size; exact .inr (by show _ ≤ r; omega)
    · rw [hold q hq']; exact hw.mu q _ _ hq' h
    · simp only [deadOf, EN.mk.injEq] at h2
      exact absurd h2.2.2 (by decide)
  · intro q hq
    simp only [hρ']
    rw [if_neg (by omega)]
    exact hw.ini q hq

theorem putF_get (X : St) (i : Nat) (is : Bool) (x : It) (hi : i ≤ X.items.length) (his : is = true → i < X.items.length) : (putF X i is x).1.items[i]? = some (putF X i is x).2 := by
  cases is with
  | true =>
    show (X.items.set i _)[i]? = _
    rw [List.getElem?_set_self (his rfl)]; rfl
  | false =>
    show (X.items.take i ++ _ :: X.items.drop i)[i]? = _
    rw [List.getElem?_append_right (by rw [List.length_take]; omega), List.length_take, Nat.min_eq_left hi, Nat.sub_self]; rfl

/-- put, as a call in a walk -/
theorem put_h {C : Cx} {nE N : Nat} {Y : St × It} {mk : Nat → Prop} {en en' : List EN} {base : Nat} {X : St} {vS : SC} {now : Int} {c : Cd} {most : Int} {i : Nat} {is : Bool} (x : It)
    (hY : Y = putF X i is x) (hP : C.P = Tryd.prog) (h0 : zD en 0 = some (woE vS X now c most i is)) (hd : Of base X en vS) (hb : base ≤ C.w0.heap.size) (hn0 : 0 < C.n0) (hn1 : C.n0 ≤ N) (hg : base ≤ (C.ρ0 0).blk)
    (hi : i ≤ X.items.length) (his : is = true → i < X.items.length) (hn : X.items.length ≤ 100000000) (hE : 0 < nE) (hmk : ∀ q, mk q ↔ q = N)
    (hm : Moved N en en' vS (woE (.rw N Y.1.items.length) Y.1 now c most i is) (winE base Y.1.items i Y.2)) :
    HCall C nE mk en en' 34 [.c (.p 0 0), .g (itS x)] (.c (.p N 0)) := by
  subst hY
  refine ⟨fun args w => by rw [hP]; exact Tryd.call34 args w, ?_⟩
  intro ρ pr w hpr hmn hw hex hwf
  rw [hP]
  have l0 : pr 0 := hpr 0 hE
  have lN : ¬ pr N := hmn _ ((hmk _).2 rfl)
  have hg' : base ≤ (ρ 0).blk := by rw [hw.ini 0 hn0]; exact hg
  obtain ⟨hws, _⟩ := ws_ofP hw l0 h0 hd hg'
  obtain ⟨_, o2, _⟩ := hw.ho 0 _ _ _ l0 h0
  have key := put base (ρ 0).blk (vS.den ρ) X now c most i is x w hws (Nat.le_trans hb hw.up.size) hi his hn
  have hargs : (List.map (SV.den ρ) [.c (.p 0 0), .g (itS x)]).toArray = #[.pointer (some ⟨(ρ 0).blk, 0, none⟩), .agg (itA x)] := by
    simp [SV.den, SC.den, ptrOf, o2]
    rfl
  rw [hargs]
  refine key.mono ?_
  rintro e w' ⟨r, cap, rfl, hW, hU, hr⟩
  obtain ⟨ρ', h1, h2, h3⟩ := moved_ok hw l0 lN h0 hd hg' hn1 hm (putF_get X i is x hi his) hW hU hr
  have hsame : (fun q => pr q ∨ mk q) = fun q => pr q ∨ q = N := funext fun q => propext (or_congr_right (hmk q))
  rw [hsame]
  have hlt : i < (putF X i is x).1.items.length := (List.getElem?_eq_some_iff.1 (putF_get X i is x hi his)).1
  refine ⟨ρ', h1, ?_, .inr rfl, h3, ?_⟩
  · simp only [SV.den, SC.den, ptrOf]
    rw [h2]
    simp only [flat_len, List.length_take]
    rw [Nat.min_eq_left (by omega), Nat.add_zero]
  · intro q hq
    rw [(hmk q).1 hq, hm.2.1]
    exact fun h => nomatch h

theorem moved_nil {z z0 zN : EN} {more : List EN} {p : Option Addr} : Moved (z :: more).length (z :: more) (zF (z0 :: more) zN) (.v (.slice p 0 0)) z0 zN := by
  refine ⟨rfl, ?_, ?_⟩
  · rw [nthS_eq, snoc_eq]; simp
  · intro q hq hN
    refine .inl ⟨(fun _ h => by cases h), ?_⟩
    obtain ⟨q, rfl⟩ : ∃ j, q = j + 1 := ⟨q - 1, by omega⟩
    rw [nthS_eq, nthS_eq, snoc_eq]
    simp only [List.cons_append, List.getElem?_cons_succ]
    rcases Nat.lt_or_ge q more.length with h | h
    · rw [List.getElem?_append_left h]
    · have : q ≠ more.length := fun e => hN (by simp [e])
      rw [List.getElem?_eq_none (by simp; omega), List.getElem?_eq_none h]
theorem moved_row {z z0 e1 zN : EN} {n : Nat} {more : List EN} : Moved (z :: e1 :: more).length (z :: e1 :: more) (zF (z0 :: deadOf e1 :: more) zN) (.rw 1 n) z0 zN := by
  refine ⟨rfl, ?_, ?_⟩
  · rw [nthS_eq, snoc_eq]; simp
  · intro q hq hN
    by_cases h1 : q = 1
    · subst h1
      exact .inr ⟨⟨n, rfl⟩, e1, rfl, rfl⟩
    refine .inl ⟨fun _ h => h1 (by injection h with h; exact h.symm), ?_⟩
    obtain ⟨q, rfl⟩ : ∃ j, q = j + 2 := ⟨q - 2, by omega⟩
    rw [nthS_eq, nthS_eq, snoc_eq]
    simp only [List.cons_append, List.getElem?_cons_succ]
    rcases Nat.lt_or_ge q more.length with h | h
    · rw [List.getElem?_append_left h]
    · have : q ≠ more.length := fun e => hN (by simp [e])
      rw [List.getElem?_eq_none (by simp; omega), List.getElem?_eq_none h]
theorem moved_nil' {z z0 zN : EN} {more : List EN} {N : Nat} {p : Option Addr} (h : zD more N = some zN) : Moved (N + 1) (z :: more) (z0 :: more) (.v (.slice p 0 0)) z0 zN := by
  refine ⟨rfl, h, ?_⟩
  intro q hq hN
  obtain ⟨q, rfl⟩ : ∃ j, q = j + 1 := ⟨q - 1, by omega⟩
  exact .inl ⟨(fun _ h => by cases h), rfl⟩
theorem moved_row' {z z0 e1 zN : EN} {n : Nat} {more : List EN} {N : Nat} (h : zD more N = some zN) : Moved (N + 2) (z :: e1 :: more) (z0 :: deadOf e1 :: more) (.rw 1 n) z0 zN := by
  refine ⟨rfl, h, ?_⟩
  intro q hq hN
  by_cases h1 : q = 1
  · subst h1
    exact .inr ⟨⟨n, rfl⟩, e1, rfl, rfl⟩
  obtain ⟨q, rfl⟩ : ∃ j, q = j + 2 := ⟨q - 2, by omega⟩
  exact .inl ⟨fun _ h => h1 (by injection h with h; exact h.symm), rfl⟩
/-- what one call makes: its own entry -/
theorem mkC_one {nE : Nat} {j q : Nat} : mkC nE [.h j] j q ↔ q = nE := by
  unfold mkC
  constructor
  · rintro ⟨h1, h2⟩
    have := (List.getElem?_eq_some_iff.1 h2).1
    simp at this
    omega
  · rintro rfl
    exact ⟨Nat.le_refl _, by rw [Nat.sub_self]; rfl⟩
end Go.Proofs.YtfmpdbngpknmaaaDoor
/- get, whole, by the symbolic walk. -/
namespace Go.Proofs.YtfmpdbngpknmaaaDoor
set_option linter.unusedSimpArgs false
set_option linter.unusedVariables false
set_option linter.unusedSimpArgs false
set_option linter.unusedVariables false
set_option maxHeartbeats 8000000
open Go.RowKit

/-- what a walk of an operation knows of its frame -/
structure CG (C : Cx) (base : Nat) : Prop where
  P : C.P = Tryd.prog
  hb : base ≤ C.w0.heap.size
  n0 : 0 < C.n0
  n1 : C.n0 ≤ 2
  g : base ≤ (C.ρ0 0).blk
theorem op_run {base g : Nat} {v : Value} {X : St} {now : Int} {c : Cd} {most : Int} {i : Nat} {is : Bool} {w : World} {f : FuncId} {fn : Func} {cd : Code} {R : Ending → World → Prop} {nt : Nat} (hf : Tryd.prog.funcs[f]? = some fn) (hcd : fn.body = some cd) (kp : List Nat) (hnt : fn.ntmps = nt) (h1 : 1 ≤ nt)
    (h : WS base w g v X now c most i is) (hbase : base ≤ w.heap.size) (his : is = true → i < X.items.length)
    (k : ∀ vS tl, Sh base X i is vS tl → ∀ ρ : Nat → RE, ρ 0 = ⟨g, [], [], 0, none⟩ → ∀ n, 0 < n → n ≤ 1 + tl.length → ∀ C, C = zL Tryd.prog fn R (S0 g v) w ρ n kp → CG C base → C.P = Tryd.prog → C.kp = kp → Run C [.code cd] nt (zK 0 [.c (.p 0 0)]) (woE vS X now c most i is :: tl)) :
    Calls Tryd.prog f #[.pointer (some ⟨g, 0, none⟩)] w R := by
  obtain ⟨vS, tl, ρ, hat, hρ, hv, hsh⟩ := ws_at h his
  have key := calls_of_Run (R := R) hf hcd kp [.c (.p 0 0)] hnt hat (by simp [SV.wf, SC.wf]) (by simpa using h1) ?_
  · simpa [SV.den, SC.den, ptrOf, hρ] using key
  intro C hC hP hk
  refine k vS tl hsh ρ hρ _ (by simp) (by simp; omega) C hC ⟨hP, ?_, ?_, ?_, ?_⟩ hP hk
  · rw [hC]; exact hbase
  · rw [hC]; show 0 < (woE vS X now c most i is :: tl).length; simp
  · rw [hC]; show (woE vS X now c most i is :: tl).length ≤ 2
    rcases hsh with ⟨_, ⟨_, rfl⟩ | ⟨_, _, _, rfl⟩⟩ <;> simp
  · rw [hC]; show base ≤ (ρ 0).blk; rw [hρ]; exact h.low

set_option maxRecDepth 100000
theorem get_no (base g : Nat) (v : Value) (X : St) (now : Int) (c : Cd) (most : Int) (i : Nat) (w : World) (h : WS base w g v X now c most i false) (hbase : base ≤ w.heap.size) (hi : i ≤ X.items.length) (hl : X.items.length ≤ 100000000)
    (hn0 : 1 ≤ now) (hn1 : now ≤ 1099511627776) :
    Calls Tryd.prog 20 #[.pointer (some ⟨g, 0, none⟩)] w (OpR base g v (getF X now c i false).1 now c most i false (getF X now c i false).2 w) := by
  refine op_run Tryd.func20 rfl kp20 Tryd.ntmps20 (by decide) h hbase (by simp) ?_
  intro vS tl hsh ρ hρ n hn hn' C hC hG hP hk
  have hctr := mC1_ok hP
  obtain ⟨Y, hY⟩ : ∃ Y, Y = putF X i false ⟨c.key, 0, [], momF now c.vive, 0, 0, false, true⟩ := ⟨_, rfl⟩
  have hYi : Y.1.items[i]? = some Y.2 := by rw [hY]; exact putF_get X i false _ hi (by simp)
  have hf0 : c.viv = false → getF X now c i false = (X, toldF 5) := fun hv => by simp [getF, hv]
  have hf1 : c.viv = true → getF X now c i false = (Y.1, ⟨1, Y.2, 0, true, false, false⟩) := fun hv => by simp [getF, hv, hY]
  rcases hsh with ⟨rfl, ⟨_, rfl⟩ | ⟨h1, _⟩⟩
  · (refine VC_ok hctr (rs := res20) 300 _ _ _ ?_; simp (maxSteps := 1000000) only [VC, qA, qB, qC, qD, qE, qF, qG, qH, qI, qJ, qK, qL, qM, qN, qO, qP, qQ, qR, qS, qT, qU, qV, qW, qX, qY, qZ, qe, qf, qg, qh, qj, qk, ql, qm, qn, qo, qp, qq, qt, qu, qv, ev, qw, qy, qz, zA, zB, zC, zD, zE, zF, zG, zH, zI, zJ, TE.sv, zK, zL, zM, ↓reduceIte, reduceCtorEq, Value.oneCell', Nat.reduceEqDiff, Nat.reduceAdd, Nat.reduceLT, Nat.reduceBEq, Nat.reduceSub, Nat.reduceLeDiff, zP, zQ, zR, zS, zT, zU, zV, zW, zX, zY, zZ, za, zb, zc, zd, ze, zf, zg, zh, zi, zj, zk, zl, zm, zn, zo, zp, zq, zr, zt, zu, zw, zx, zy, zz, cE, jA, jB, cD, cO, jC, jD, jE, jF, jG, jH, jI, jJ, jK, jL, jM, jN, jO, jP, jQ, jR, jS, jT, jU, jV, jW, jX, jY, hP, hk, res20, kp20, woE, woS, rowE, mC1, mC0, rowTold, toldF, It.zero, anS])
    refine ⟨fun hv => ?_, fun hv => ?_⟩
    · have hv' : c.viv = false := by simpa using hv
      rw [hf0 hv'] at hC
      exact opFin hC hres20 hn hρ h.low (vS := .rw 1 X.items.length) rfl (.inr ⟨1, rfl, by decide, .inl rfl⟩) rfl
    · have hv' : c.viv = true := by simpa using hv
      rw [hf1 hv'] at hC
      (refine Run_drawD hctr (by rw [hP]; rfl) rs20_4 [⟨.c (.p 3 0), [woE (.rw 3 Y.1.items.length) Y.1 now c most i false, deadOf (rowE base X.items), ⟨(33, 0, whole), [.i .i64 0, .s [], .i .u32 0, .s [], .i .i64 0, .i .u64 0, .i .i64 0, .b false, .b false, .i .u64 0, .b false, .b false, .b false], true⟩, winE base Y.1.items i Y.2]⟩] (ensure_type_of% (Cmp.of (by simp (maxSteps := 1000000) only [VC, qA, qB, qC, qD, qE, qF, qG, qH, qI, qJ, qK, qL, qM, qN, qO, qP, qQ, qR, qS, qT, qU, qV, qW, qX, qY, qZ, qe, qf, qg, qh, qj, qk, ql, qm, qn, qo, qp, qq, qt, qu, qv, ev, qw, qy, qz, zA, zB, zC, zD, zE, zF, zG, zH, zI, zJ, TE.sv, zK, zL, zM, ↓reduceIte, reduceCtorEq, Value.oneCell', Nat.reduceEqDiff, Nat.reduceAdd, Nat.reduceLT, Nat.reduceBEq, Nat.reduceSub, Nat.reduceLeDiff, zP, zQ, zR, zS, zT, zU, zV, zW, zX, zY, zZ, za, zb, zc, zd, ze, zf, zg, zh, zi, zj, zk, zl, zm, zn, zo, zp, zq, zr, zt, zu, zw, zx, zy, zz, cE, jA, jB, cD, cO, jC, jD, jE, jF, jG, jH, jI, jJ, jK, jL, jM, jN, jO, jP, jQ, jR, jS, jT, jU, jV, jW, jX, jY, hP, woE, woS, rowE, winE, itS, deadOf, mC1, mC0, rowMoment, hn0, hn1]; rfl)) "" Cmp.mk) (by kernel_rfl) (by kernel_rfl) (by first | exact lenB_one _ | kernel_rfl) (by kernel_rfl) (by rfl) (by rfl) (by first | exact firstN_self _ | rfl) (by rfl) ?_ ?_; rotate_left; refine VC_ok hctr (rs := res20) 300 _ _ _ ?_; simp (maxSteps := 1000000) only [VC, qA, qB, qC, qD, qE, qF, qG, qH, qI, qJ, qK, qL, qM, qN, qO, qP, qQ, qR, qS, qT, qU, qV, qW, qX, qY, qZ, qe, qf, qg, qh, qj, qk, ql, qm, qn, qo, qp, qq, qt, qu, qv, ev, qw, qy, qz, zA, zB, zC, zD, zE, zF, zG, zH, zI, zJ, TE.sv, zK, zL, zM, ↓reduceIte, reduceCtorEq, Value.oneCell', Nat.reduceEqDiff, Nat.reduceAdd, Nat.reduceLT, Nat.reduceBEq, Nat.reduceSub, Nat.reduceLeDiff, zP, zQ, zR, zS, zT, zU, zV, zW, zX, zY, zZ, za, zb, zc, zd, ze, zf, zg, zh, zi, zj, zk, zl, zm, zn, zo, zp, zq, zr, zt, zu, zw, zx, zy, zz, cE, jA, jB, cD, cO, jC, jD, jE, jF, jG, jH, jI, jJ, jK, jL, jM, jN, jO, jP, jQ, jR, jS, jT, jU, jV, jW, jX, jY, hP, hk, res20, kp20, woE, woS, rowE, winE, itS, deadOf, mC1, mC0, rowMoment, hn0, hn1]; rotate_left; simp (maxSteps := 1000000) only [VC, qA, qB, qC, qD, qE, qF, qG, qH, qI, qJ, qK, qL, qM, qN, qO, qP, qQ, qR, qS, qT, qU, qV, qW, qX, qY, qZ, qe, qf, qg, qh, qj, qk, ql, qm, qn, qo, qp, qq, qt, qu, qv, ev, qw, qy, qz, zA, zB, zC, zD, zE, zF, zG, zH, zI, zJ, TE.sv, zK, zL, zM, ↓reduceIte, reduceCtorEq, Value.oneCell', Nat.reduceEqDiff, Nat.reduceAdd, Nat.reduceLT, Nat.reduceBEq, Nat.reduceSub, Nat.reduceLeDiff, zP, zQ, zR, zS, zT, zU, zV, zW, zX, zY, zZ, za, zb, zc, zd, ze, zf, zg, zh, zi, zj, zk, zl, zm, zn, zo, zp, zq, zr, zt, zu, zw, zx, zy, zz, cE, jA, jB, cD, cO, jC, jD, jE, jF, jG, jH, jI, jJ, jK, jL, jM, jN, jO, jP, jQ, jR, jS, jT, jU, jV, jW, jX, jY, hP, woE, woS, rowE, winE, itS, deadOf, mC1, mC0, rowMoment, hn0, hn1])
      · refine put_h _ hY hP (now := now) (c := c) (most := most) (vS := .rw 1 X.items.length) ?_ (.inr ⟨1, rfl, by decide, .inl ?_⟩) hG.hb hG.n0 ?_ hG.g hi ?_ hl ?_ ?_ ?_
        · rfl
        · rfl
        · have := hG.n1; omega
        · exact fun h => nomatch h
        · decide
        · exact fun q => mkC_one
        · exact moved_row' rfl
      · exact opFin hC hres20 hn hρ h.low (vS := .rw 3 Y.1.items.length) rfl (.inr ⟨3, rfl, by decide, .inr ⟨i, Y.2, hYi, rfl⟩⟩) rfl
  · cases h1
/-- put in a region that follows the text, where the row is there -/
theorem Run_put {C : Cx} {base nt : Nat} {sl : List (Nat × SV)} {k : List KI} {dst : Option Nat} {args : Array Operand} {tys : Array TypeId} {ty : TypeId} {pos : String} {af : Array Edge} {all r : List Oper} {Y : St × It} {X : St} {now : Int} {c : Cd} {most : Int} {i : Nat} {is : Bool} {z e1 : EN} {more : List EN} (x : It)
    (hY : Y = putF X i is x) (hG : CG C base) (h0 : z = woE (.rw 1 X.items.length) X now c most i is) (h1 : e1 = rowE base X.items ∨ ∃ j y, X.items[j]? = some y ∧ e1 = winE base X.items j y)
    (hi : i ≤ X.items.length) (his : is = true → i < X.items.length) (hn : X.items.length ≤ 100000000)
    (hxs : qw sl args.toList = some [.c (.p 0 0), .g (itS x)]) (hd : ∀ d, dst = some d → d < nt)
    (hK : Run C (.ops all r :: k) nt (jN dst (.c (.p (zG (z :: e1 :: more)) 0)) sl) (zF (woE (.rw (zG (z :: e1 :: more)) Y.1.items.length) Y.1 now c most i is :: deadOf e1 :: more) (winE base Y.1.items i Y.2))) :
    Run C (.ops all (⟨dst, .call ⟨.value (.func 34), args, tys⟩, ty, pos, af, none⟩ :: r) :: k) nt sl (z :: e1 :: more) := by
  rw [lenN_eq] at hK
  refine Run_hcall hxs _ _ ?_ ?_ hd hK
  · refine put_h x hY hG.P (now := now) (c := c) (most := most) (vS := .rw 1 X.items.length) ?_ (.inr ⟨1, rfl, by decide, ?_⟩) hG.hb hG.n0 ?_ hG.g hi his hn ?_ ?_ ?_
    · rw [h0]; rfl
    · rcases h1 with h1 | ⟨j, y, hy, h1⟩
      · exact .inl (by rw [h1]; rfl)
      · exact .inr ⟨j, y, hy, by rw [h1]; rfl⟩
    · have := hG.n1; simp; omega
    · rw [lenN_eq]; simp
    · intro q
      simp only [lenN_eq, snoc_eq, List.length_append, List.length_cons, List.length_nil]
      omega
    · exact moved_row
  · simp only [lenN_eq, snoc_eq, List.length_append, List.length_cons, List.length_nil]
    omega
end Go.Proofs.YtfmpdbngpknmaaaDoor
