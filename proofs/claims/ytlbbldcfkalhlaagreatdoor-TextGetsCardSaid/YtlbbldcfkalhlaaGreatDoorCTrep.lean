/- text.Reply to a get, walked; as a row of contracts for requests and answers of the walk. -/
import Derived.Test.YtlbbldcfkalhlaaGreatDoorCTvals
import Derived.Test.YtlbbldcfkalhlaaGreatDoorCTsameR
namespace Go.Proofs.YtlbbldcfkalhlaaGreatDoor
set_option linter.unusedSimpArgs false
set_option linter.unusedVariables false
set_option linter.unusedSimpArgs false
set_option linter.unusedVariables false
set_option maxHeartbeats 8000000
open Go.RowKit
set_option maxRecDepth 100000

def rowValues (tok : Bool) (xs : List An) (a : Option Addr) : List SV → Option (Prop × SV)
  | [.c (.v (.slice a' n c)), .c (.b t)] => some (a' = a ∧ n = xs.length ∧ t = tok, .c (.s (valuesF tok xs)))
  | _ => none
def repC (tok : Bool) (xs : List An) (a : Option Addr) : Ctr := fun f _ ys => match f with
  | 24 => rowValues tok xs a ys
  | _ => none
theorem RawA.upd {w w' : World} {a : Option Addr} {xs : List An} (h : RawA w a xs) (hu : Upd Non w w') : RawA w' a xs := by
  intro k x hx
  obtain ⟨b, o, ha, hb, hc⟩ := h k x hx
  exact ⟨b, o, ha, Nat.lt_of_lt_of_le hb hu.size, fun j v hv => (hu.cell (p := ⟨b, o + k * 13 + j, none⟩) hb (fun h => h)).trans (hc j v hv)⟩
theorem repC_ok {C : Cx} {tok : Bool} {xs : List An} {a : Option Addr} {w0 : World} (hP : C.P = Tryz.prog) (hS : C.S = Non) (hw : C.w0 = w0) (hraw : RawA w0 a xs) (hn1 : xs.length ≤ 100000) (hok : ∀ x ∈ xs, AnOk x) (hE : EnvC C) : CtrOk C (repC tok xs a) := by
  intro f en ys p v h hp ρ w hup hHp hHo hinj hwf
  unfold repC at h
  split at h
  · rw [hP]
    refine ⟨fun args w => Tryz.call24 args w, ?_⟩
    unfold rowValues at h
    split at h <;> simp only [Option.some.injEq, Prod.mk.injEq, reduceCtorEq] at h
    rename_i a' n c t
    obtain ⟨rfl, rfl⟩ := h
    obtain ⟨rfl, rfl, rfl⟩ := hp
    refine ⟨trivial, ?_⟩
    have hr : RawA w a' xs := hraw.upd (by rw [hS, hw] at hup; exact hup)
    cases t
    · exact values_f hr rfl hn1 hok (hE w hup)
    · exact values_t hr rfl hn1 hok (hE w hup)
  · cases h
/-- Reply to a get -/
theorem reply_w {w : World} {ca a : Option Addr} {cc c m n : Nat} {r : Rq} {xs : List An} (hc : RawC w ca r.cmds) (hm : r.cmds.length = m) (hraw : RawA w a xs) (hn : xs.length = n) (hn1 : n ≤ 100000) (hmn : m ≤ n) (hok : ∀ x ∈ xs, AnOk x) (h1 : r.kind = 1) (hop : ∀ x, r.cmds[0]? = some x → x.op = 1) (hE0 : Env w) :
    Calls Tryz.prog 15 #[rqA (.slice ca m cc) r, .slice a n c] w fun e w' => e = .returned (.string ⟨(if m = 0 then [] else valuesF r.tokens xs).toArray⟩) ∧ Below w.heap.size w w' := by
  refine calls_of_Run Tryz.func15 rfl kp15 (S := Non) (ρ := fun _ => reOf 0) (en := []) [.g (rqS (.v (.slice ca m cc)) r), .c (.v (.slice a n c))] Tryz.ntmps15 (At.nil _ _ _) (by intro x hx; simp only [List.mem_cons, List.not_mem_nil, or_false] at hx; rcases hx with rfl | rfl; exact rq_wf _ _ _; trivial) (by simp) ?_
  intro C hC hP hk
  have hE : EnvC C := fun w' hu => by rw [hC] at hu; exact hE0.below hu.to_below
  have hctr := repC_ok (tok := r.tokens) hP (by rw [hC]; rfl) (by rw [hC]; rfl) hraw (by omega) hok hE
  have k1 : ((1 : Int) == 2) = false := rfl
  have e1 : (r.kind == 2) = false := by rw [h1]; rfl
  have e2 : (r.kind == 3) = false := by rw [h1]; rfl
  have e3 : (r.kind == 4) = false := by rw [h1]; rfl
  have e4 : (r.kind != 1) = false := by rw [h1]; rfl
  have nm : decide ((n : Int) < (m : Int)) = false := decide_eq_false (by omega)
  by_cases hm0 : m = 0
  · have z : ((m : Int) == 0) = true := by rw [hm0]; rfl
    (refine VT_ok hctr (rs := res15) true 300 _ _ _ ?_; simp (maxSteps := 1000000) only [VT, jf, jg, jZ, ja, jd, je, VC, qA, qB, qC, qD, qE, qF, qG, qH, qI, qJ, qK, qL, qM, qN, qO, qP, qQ, qR, qS, qT, qU, qV, qW, qX, qY, qZ, qe, qf, qg, qh, qj, qk, ql, qm, qn, qo, qp, qq, qt, qu, qv, ev, qw, qy, qz, zA, zB, zC, zD, zE, zF, zG, zH, zI, zJ, TE.sv, zK, zL, zM, ↓reduceIte, reduceCtorEq, Value.oneCell', Nat.reduceEqDiff, Nat.reduceAdd, Nat.reduceLT, Nat.reduceBEq, Nat.reduceSub, Nat.reduceLeDiff, zP, zQ, zR, zS, zT, zU, zV, zW, zX, zY, zZ, za, zb, zc, zd, ze, zf, zg, zh, zi, zj, zk, zl, zm, zn, zo, zp, zq, zr, zt, zu, zw, zx, zy, zz, cE, jA, jB, hap, killE, deadOf, rwE, cD, cO, jC, jD, jE, jF, jG, jH, jI, jJ, jK, jL, jM, jN, jO, jP, jQ, jR, jS, jT, jU, jV, jW, jX, jY, hP, hk, res15, kp15, repC, rqS, e1, e2, e3, e4, z, cond_true, cond_false])
    exact Fin_ro (v := .c (.s (if m = 0 then [] else valuesF r.tokens xs))) hC hres15 (by rw [if_pos hm0]) trivial
  · have z : ((m : Int) == 0) = false := by simp only [beq_eq_false_iff_ne, ne_eq]; omega
    obtain ⟨x, hx⟩ : ∃ x, r.cmds[0]? = some x := ⟨_, List.getElem?_eq_getElem (by omega)⟩
    have hop := hop x hx
    obtain ⟨b, o, rfl, hb, hcl⟩ := hc 0 x hx
    have hrd : C.rd b o 1 = some [.i .i64 1] := by
      have := rd_arg (C := C) (vs := [.int .i64 1]) (W := w) (o := o + 0) (by rw [hC]; rfl) (by rw [hC]; rfl) hb (fun j v hv => by
        have hj : j = 0 := by have := (List.getElem?_eq_some_iff.1 hv).1; simp at this; exact this
        subst hj
        simp only [List.getElem?_cons_zero, Option.some.injEq] at hv
        subst hv
        exact hcl 0 _ (by simp [rcA, hop])) rfl
      exact this
    have q1 : (0 : Int) < (m : Int) := by omega
    (refine VT_ok hctr (rs := res15) true 300 _ _ _ ?_; simp (maxSteps := 1000000) only [VT, jf, jg, jZ, ja, jd, je, VC, qA, qB, qC, qD, qE, qF, qG, qH, qI, qJ, qK, qL, qM, qN, qO, qP, qQ, qR, qS, qT, qU, qV, qW, qX, qY, qZ, qe, qf, qg, qh, qj, qk, ql, qm, qn, qo, qp, qq, qt, qu, qv, ev, qw, qy, qz, zA, zB, zC, zD, zE, zF, zG, zH, zI, zJ, TE.sv, zK, zL, zM, ↓reduceIte, reduceCtorEq, Value.oneCell', Nat.reduceEqDiff, Nat.reduceAdd, Nat.reduceLT, Nat.reduceBEq, Nat.reduceSub, Nat.reduceLeDiff, zP, zQ, zR, zS, zT, zU, zV, zW, zX, zY, zZ, za, zb, zc, zd, ze, zf, zg, zh, zi, zj, zk, zl, zm, zn, zo, zp, zq, zr, zt, zu, zw, zx, zy, zz, cE, jA, jB, hap, killE, deadOf, rwE, cD, cO, jC, jD, jE, jF, jG, jH, jI, jJ, jK, jL, jM, jN, jO, jP, jQ, jR, jS, jT, jU, jV, jW, jX, jY, hP, hk, res15, kp15, repC, rowValues, rqS, e1, e2, e3, e4, z, nm, q1, hrd, Nat.add_zero, Nat.zero_mul, Int.toNat_zero, Int.le_refl, beq_self_eq_true, cond_true, cond_false])
    repeat (refine ⟨by first | trivial | omega, ?_⟩)
    trace_state
    exact Fin_ro (v := .c (.s (if m = 0 then [] else valuesF r.tokens xs))) hC hres15 (by rw [if_neg hm0]) trivial
theorem raw_ofA {ρ : Nat → RE} {en : List EN} {w : World} (hHp : Hp ρ (· < en.length) en w) (hHo : Ho ρ (· < en.length) en) {N : Nat} {cs : List An} (hN : zD en N = some (rwE 49 13 cs.length (flatG anSx cs))) :
    ∃ a c, (SC.rw N cs.length).den ρ = .slice a cs.length c ∧ RawA w a cs := by
  have lN : N < en.length := by rw [nthS_eq] at hN; exact (List.getElem?_eq_some_iff.1 hN).1
  obtain ⟨_, hL, hO⟩ := hHo N _ _ _ lN hN
  rcases hO with ⟨h1, h2, h3, h4, h5⟩ | ⟨h1, h2, h3⟩
  · refine ⟨some ⟨(ρ N).blk, 0, none⟩, (ρ N).cap, by simp only [SC.den]; rw [rwOf_on h1], fun k c hc => ?_⟩
    have key : ∀ (j : Nat) v, (anVx c)[j]? = some v → w.cell? ⟨(ρ N).blk, 0 + k * 13 + j, none⟩ = some v := by
      intro j v hv
      have hd : dens ρ (anSx c) = anVx c := rfl
      have hj : j < 13 := by have := (List.getElem?_eq_some_iff.1 hv).1; simpa [anVx] using this
      obtain ⟨y, hy⟩ : ∃ y, (anSx c)[j]? = some y := ⟨_, List.getElem?_eq_getElem (by rw [anSx_len]; exact hj)⟩
      have hyv : y.den ρ = v := by
        rw [← hd] at hv
        simp only [dens, List.getElem?_map, hy, Option.map_some, Option.some.injEq] at hv
        exact hv
      have hf := flatG_nth (z := 13) anSx_len hc hj
      rw [nthS_eq, hy] at hf
      have := hHp.cellAt lN hN hf
      rw [h2, hyv] at this
      rw [← this]
      simp [Nat.add_assoc]
    refine ⟨_, _, rfl, ?_, key⟩
    exact Go.block_lt_of_cell (a := ⟨(ρ N).blk, 0 + k * 13 + 0, none⟩) (key 0 _ rfl)
  · refine ⟨none, 0, by simp only [SC.den]; rw [rwOf_off h1], fun k c hc => ?_⟩
    have := (List.getElem?_eq_some_iff.1 hc).1
    omega
/-- Reply to a get, of rows of the walk -/
def rowReply (r : Rq) (xs : List An) (en : List EN) : List SV → Option (Prop × SV)
  | [.g cs, .c Y] => some (∃ M N, cs = rqS (.rw M r.cmds.length) r ∧ Y = .rw N xs.length ∧ zD en M = some (rwE 37 16 r.cmds.length (flatG rcS r.cmds)) ∧ zD en N = some (rwE 49 13 xs.length (flatG anSx xs)), .c (.s (if r.cmds.length = 0 then [] else valuesF r.tokens xs)))
  | _ => none
theorem rowReply_ok {r : Rq} {xs : List An} {ρ : Nat → RE} {en : List EN} {w : World} {ys : List SV} {p : Prop} {v : SV} (hn1 : xs.length ≤ 100000) (hmn : r.cmds.length ≤ xs.length) (hok : ∀ x ∈ xs, AnOk x) (h1 : r.kind = 1) (hop : ∀ x, r.cmds[0]? = some x → x.op = 1) (hE0 : Env w)
    (h : rowReply r xs en ys = some (p, v)) (hp : p) (hHp : Hp ρ (· < en.length) en w) (hHo : Ho ρ (· < en.length) en) :
    v.wf (· < en.length) ∧ Calls Tryz.prog 15 (ys.map (SV.den ρ)).toArray w fun e w' => e = .returned (v.den ρ) ∧ Below w.heap.size w w' := by
  unfold rowReply at h
  split at h <;> simp only [Option.some.injEq, Prod.mk.injEq, reduceCtorEq] at h
  obtain ⟨rfl, rfl⟩ := h
  obtain ⟨M, N, rfl, rfl, hM, hN⟩ := hp
  obtain ⟨ca, cc, e1, _, R1, _⟩ := raw_of_row hHp hHo hM
  obtain ⟨a, c, e2, R2⟩ := raw_ofA hHp hHo hN
  refine ⟨trivial, ?_⟩
  have := reply_w (cc := cc) (c := c) R1 rfl R2 rfl hn1 hmn hok h1 hop hE0
  rw [← e1, ← e2] at this
  exact this
end Go.Proofs.YtlbbldcfkalhlaaGreatDoor
