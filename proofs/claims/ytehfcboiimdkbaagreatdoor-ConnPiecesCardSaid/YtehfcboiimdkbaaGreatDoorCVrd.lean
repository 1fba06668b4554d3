/- read, whole. -/
import Derived.Test.YtehfcboiimdkbaaGreatDoorCVread
namespace Go.Proofs.YtehfcboiimdkbaaGreatDoor
set_option linter.unusedSimpArgs false
set_option linter.unusedVariables false
open Go.RowKit
set_option maxRecDepth 100000
def RPost (g : Nat) (w : World) (o : Rd') (e : Ending) (w' : World) : Prop :=
  Upd (One g) w w' ∧ match o with
  | .fault f => ∃ v, e = .returned (.tuple #[v, .bool false]) ∧ ReqV w.heap.size w' v (badR f) ∧ w'.cell? ⟨g, 3, none⟩ = some (.int .i64 0)
  | .got r more used => ∃ v, e = .returned (.tuple #[v, .bool more]) ∧ ReqV w.heap.size w' v r ∧ w'.cell? ⟨g, 3, none⟩ = some (.int .i64 used)
def ptrA (g : Nat) : Value := .pointer (some ⟨g, 0, none⟩)
def recD (g1 g2 : Nat) : Deferred := { target := .fn (.func 53) #[ptrA g1, ptrA g2], args := #[] }
def reqA (cv : Value) (r : Rq) : Array Value := (dens (fun _ => reOfV 0) (rqS (.v cv) r)).toArray
theorem read_res {tmps : Array Value} {w : World} {g1 g2 : Nat} {cv : Value} {r : Rq} {b : Bool} (h1 : Blk w g1 30 (reqA cv r)) (h2 : Blk w g2 4 #[.bool b]) (hne : g1 ≠ g2) (t2 : tmps[2]? = some (ptrA g1)) (t3 : tmps[3]? = some (ptrA g2)) :
    (results Tryz.f40 tmps).run Tryz.prog w = .ok (.tuple #[rqA cv r, .bool b]) w := by
  have hat := req_at (cv := cv) (r := r) (b := b) h1 h2 hne
  obtain ⟨C, hC⟩ : ∃ C : Cx, C = ⟨Tryz.prog, fun _ _ _ => True, Two g1 g2, w, roL (reqL (.v cv) r b g1 g2), 0, [], []⟩ := ⟨_, rfl⟩
  have hr : Rep C (roL (reqL (.v cv) r b g1 g2)) tmps.size [(2, .c (.p 0 0)), (3, .c (.p 1 0))] (enL (reqL (.v cv) r b g1 g2)) ⟨tmps, []⟩ w := by
    subst hC
    refine ⟨⟨hat.hp, hat.ho, hat.inj, Upd.refl _ _, fun c ty cells hc he => .inl (hat.mu c ty cells hc he), fun c hc => absurd hc (Nat.not_lt_zero _)⟩, ?_, rfl, rfl, Nat.zero_le _⟩
    intro d v hd
    simp only [qy] at hd
    split at hd
    · rename_i e; subst e; simp only [Option.some.injEq] at hd; subst hd
      exact ⟨t2, by simp [SV.wf, SC.wf, enL, reqL]⟩
    · split at hd
      · rename_i e; subst e; simp only [Option.some.injEq] at hd; subst hd
        exact ⟨t3, by simp [SV.wf, SC.wf, enL, reqL]⟩
      · cases hd
  have hl : qE C.P [(2, .c (.p 0 0)), (3, .c (.p 1 0))] (enL (reqL (.v cv) r b g1 g2)) Tryz.f40.results.toList = some [.g (rqS (.v cv) r), .c (.b b)] := by
    rw [hC, hres40]
    simp only [VC, qA, qB, qC, qD, qE, qF, qG, qH, qI, qJ, qK, qL, qM, qN, qO, qP, qQ, qR, qS, qT, qU, qV, qW, qX, qY, qZ, qe, qf, qg, qh, qj, qk, ql, qm, qn, qo, qp, qq, q0t, qu, qv, ev, qw, qy, qz, zA, zB, zC, zD, zE, zF, zG, zH, zI, zJ, TE.sv, zK, zL, zM, ↓reduceIte, reduceCtorEq, Value.oneCell', Nat.reduceEqDiff, Nat.reduceAdd, Nat.reduceLT, Nat.reduceBEq, Nat.reduceSub, Nat.reduceLeDiff, zP, zQ, zR, zS, zT, zU, zV, zW, zX, zY, zZ, za, zb, zc, zd, ze, zf, zg, zh, zi, zj, zk, zl, zm, zn, zo, zp, zq, zr, zt, zu, zw, zx, zy, zz, res40, enL, reqL, rqS, List.map_cons, List.map_nil]
  have := (hr.resOk hl).1
  rw [hC] at this
  exact this
structure RC (g g1 g2 : Nat) (w : World) (a : Act) (w2 : World) : Prop where
  df : a.defers = [recD g1 g2]
  t2 : a.tmps[2]? = some (ptrA g1)
  t3 : a.tmps[3]? = some (ptrA g2)
  up : Upd (One g) w w2
  n1 : w.heap.size ≤ g1
  n2 : w.heap.size ≤ g2
  ne : g1 ≠ g2
  hg : g < w.heap.size
theorem inv_rec (g1 g2 : Nat) (w : World) : (invoke (.fn (.func 53) #[ptrA g1, ptrA g2]) #[]).run Tryz.prog w = .ok (.enter 53 #[ptrA g1, ptrA g2]) w := by
  simp [invoke, Tryz.call53]
theorem rc_fault {g g1 g2 : Nat} {w w2 w3 : World} {a : Act} {o : Rd'} {f : List UInt8} {b : Bool} {cv : Value} {r : Rq} (h : RC g g1 g2 w a w2) (hU : Upd (One g) w2 w3) (b1 : Blk w3 g1 30 (reqA cv r)) (b2 : Blk w3 g2 4 #[.bool b]) (hu : w3.cell? ⟨g, 3, none⟩ = some (.int .i64 0)) (ho : o = .fault f) :
    bodyPostD Tryz.prog Tryz.f40 (RPost g w o) (.panic (faultE f)) a w3 := by
  subst ho
  show Leaves _ _ a.tmps _ a.defers (.panicking (faultE f)) w3
  rw [h.df]
  refine leaves_cons (by simp) (inv_rec g1 g2 w3) ((rec_fault f b1 b2 h.ne).mono ?_)
  rintro e u' w4 ⟨rfl, rfl, hU4, k1, k2⟩
  refine ⟨_, read_res k1 k2 h.ne h.t2 h.t3, ?_, _, rfl, ⟨_, rfl, .inl ⟨rfl, rfl⟩⟩, ?_⟩
  · refine (h.up.same hU).trans hU4 fun k hk ht => ?_
    rcases ht with e | e <;> (have e : k = _ := e; have := h.n1; have := h.n2; omega)
  · have hlt : g < w3.heap.size := Nat.lt_of_lt_of_le h.hg (Nat.le_trans h.up.size hU.size)
    rw [hU4.cell (p := ⟨g, 3, none⟩) hlt (by rintro (e | e) <;> (have e : g = _ := e; have := h.n1; have := h.n2; have := h.hg; omega))]
    exact hu
theorem rc_ret {g g1 g2 : Nat} {w w2 : World} {a : Act} {o : Rd'} {more : Bool} {used : Int} {cv : Value} {r : Rq} (h : RC g g1 g2 w a w2) (b1 : Blk w2 g1 30 (reqA cv r)) (b2 : Blk w2 g2 4 #[.bool more]) (hu : w2.cell? ⟨g, 3, none⟩ = some (.int .i64 used)) (hc : CmdV w.heap.size w2 cv r.cmds) (ho : o = .got r more used) :
    bodyPostD Tryz.prog Tryz.f40 (RPost g w o) .ret a w2 := by
  subst ho
  show Leaves _ _ a.tmps _ a.defers .returning w2
  rw [h.df]
  refine leaves_cons (by simp) (inv_rec g1 g2 w2) ((rec_norm g1 g2 w2).mono ?_)
  rintro e u' w4 ⟨rfl, rfl, hb⟩
  refine ⟨_, read_res (b1.below hb) (b2.below hb) h.ne h.t2 h.t3, h.up.below hb, _, rfl, ⟨_, rfl, ?_⟩, ?_⟩
  · rcases hc with hc | ⟨h0, gc, cap, rest, k1, k2, k3, k4⟩
    · exact .inl hc
    · refine .inr ⟨h0, gc, cap, rest, k1, k2, ?_, k4⟩
      rw [hb.block gc (Array.getElem?_eq_some_iff.1 k3).1]
      exact k3
  · have hlt : g < w2.heap.size := Nat.lt_of_lt_of_le h.hg h.up.size
    rw [hb.cell (p := ⟨g, 3, none⟩) hlt]
    exact hu
end Go.Proofs.YtehfcboiimdkbaaGreatDoor
