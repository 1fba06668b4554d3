/- read, walked. Printed by gen_tread.py. -/
import Derived.Test.YtehfcboiimdkbaaGreatDoorCVrd
namespace Go.Proofs.YtehfcboiimdkbaaGreatDoor
set_option linter.unusedSimpArgs false
set_option linter.unusedVariables false
set_option linter.unusedSimpArgs false
set_option linter.unusedVariables false
set_option maxHeartbeats 8000000
open Go.RowKit
set_option maxRecDepth 100000
def enRd (name : List UInt8) (W : SC) (behind : List UInt8) : List EN := [⟨(77, 0, whole), lnC name W behind 0 false, true⟩, ⟨(30, 0, whole), rqS noCmds Rq.zero, true⟩, ⟨(4, 0, whole), [.b false], true⟩]
def enRd' : List EN := [⟨(4294967295, 0, whole), [], false⟩, ⟨(30, 0, whole), rqS noCmds Rq.zero, true⟩, ⟨(4, 0, whole), [.b false], true⟩]
def cx2 (D : Cx) (g1 g2 : Nat) (w : World) (ρ : Nat → RE) : Cx := ⟨D.P, D.Q, Two g1 g2, w, ρ, 3, D.kp, D.df⟩
theorem re_eq {r : RE} (h1 : r.pre = []) (h2 : r.post = []) (h3 : r.nl = none) : r = ⟨r.blk, [], [], r.cap, none⟩ := by
  obtain ⟨b, p, q, c, n⟩ := r
  simp only at h1 h2 h3
  subst h1; subst h2; subst h3; rfl
theorem rq_wf (pr : Nat → Prop) (cv : Value) (r : Rq) : SV.wf pr (.g (rqS (.v cv) r)) := by
  intro y hy
  simp only [rqS, List.mem_cons, List.not_mem_nil, or_false] at hy
  rcases hy with rfl | rfl | rfl | rfl | rfl | rfl | rfl | rfl | rfl | rfl | rfl <;> trivial
theorem rq_wf2 (pr : Nat → Prop) (cv : Value) (r : Rq) (b : Bool) : SV.wf pr (.t [.g (rqS (.v cv) r), .c (.b b)]) := by
  intro y hy
  simp only [List.mem_cons, List.not_mem_nil, or_false] at hy
  rcases hy with rfl | rfl
  · exact rq_wf pr cv r
  · trivial
theorem cmdv_sl {b : Nat} {w : World} {cv : Value} {cs : List Cd} (h : CmdV b w cv cs) : ∃ a n c, cv = .slice a n c := by
  rcases h with ⟨_, h⟩ | ⟨_, g, cap, rest, h, _⟩
  · exact ⟨_, _, _, h⟩
  · exact ⟨_, _, _, h⟩
theorem get_more {name : List UInt8} {w : List (List UInt8)} {r : Rq} {more : Bool} {u : Int} (h : getR name w = .got r more u) : more = false := by
  unfold getR at h
  simp only at h
  repeat' split at h
  all_goals first | (cases h; rfl) | cases h
theorem plain_more {name : List UInt8} {w : List (List UInt8)} {r : Rq} {more : Bool} {u : Int} (h : plainR name w = .got r more u) : more = false := by
  unfold plainR okKey at h
  simp only at h
  repeat' split at h
  all_goals first | (cases h; rfl) | cases h
structure RD (g g1 g2 : Nat) (w : World) (name : List UInt8) (a : Option Addr) (n c : Nat) (ws : List (List UInt8)) (behind : List UInt8) (D : Cx) (ρ1 : Nat → RE) : Prop where
  P : D.P = Tryz.prog
  S : ∀ k, D.S k → k = g ∨ w.heap.size ≤ k
  up : Upd (One g) w D.w0
  n0 : D.n0 = 3
  r0 : D.ρ0 = ρ1
  e0 : ρ1 0 = reOfV g
  e1 : ∃ cp, ρ1 1 = ⟨g1, [], [], cp, none⟩
  e2 : ∃ cp, ρ1 2 = ⟨g2, [], [], cp, none⟩
  df : D.df = [recD g1 g2]
  n1 : w.heap.size ≤ g1
  n2 : w.heap.size ≤ g2
  ne : g1 ≠ g2
  hg : g < w.heap.size
section
variable {g g1 g2 : Nat} {w : World} {name : List UInt8} {a : Option Addr} {n c : Nat} {ws : List (List UInt8)} {behind : List UInt8} {D : Cx} {ρ1 ρ2 : Nat → RE} {nt : Nat} {sl : List (Nat × SV)} {a2 : Act} {w2 w3 : World}
theorem RD.upTo (h : RD g g1 g2 w name a n c ws behind D ρ1) (hr : Rep D ρ2 nt sl (enRd name (.v (.slice a n c)) behind) a2 w2) : Upd (One g) w w2 := by
  refine h.up.trans hr.hw.up fun k hk hs => ?_
  rcases h.S k hs with e | e
  · exact e
  · omega
theorem RD.rho (h : RD g g1 g2 w name a n c ws behind D ρ1) (hr : Rep D ρ2 nt sl (enRd name (.v (.slice a n c)) behind) a2 w2) : ρ2 0 = reOfV g ∧ (∃ cp, ρ2 1 = ⟨g1, [], [], cp, none⟩) ∧ ∃ cp, ρ2 2 = ⟨g2, [], [], cp, none⟩ := by
  have i : ∀ c, c < 3 → ρ2 c = ρ1 c := fun c hc => by rw [hr.hw.ini c (by rw [h.n0]; exact hc), h.r0]
  rw [i 0 (by decide), i 1 (by decide), i 2 (by decide)]
  exact ⟨h.e0, h.e1, h.e2⟩
theorem RD.blks (h : RD g g1 g2 w name a n c ws behind D ρ1) (hr : Rep D ρ2 nt sl (enRd name (.v (.slice a n c)) behind) a2 w2) : Blk w2 g 77 (lnA name (.slice a n c) behind 0 false) ∧ Blk w2 g1 30 (reqA (.slice none 0 0) Rq.zero) ∧ Blk w2 g2 4 #[.bool false] := by
  obtain ⟨q0, ⟨cp1, q1⟩, ⟨cp2, q2⟩⟩ := h.rho hr
  obtain ⟨k0, _⟩ := ent_blkV (c := 0) hr.hw.hp hr.hw.ho (by show 0 < 3; decide) rfl (by decide) (by simp [lnC])
  obtain ⟨k1, _⟩ := ent_blkV (c := 1) hr.hw.hp hr.hw.ho (by show 1 < 3; decide) rfl (by decide) (by simp [rqS])
  obtain ⟨k2, _⟩ := ent_blkV (c := 2) hr.hw.hp hr.hw.ho (by show 2 < 3; decide) rfl (by decide) (by simp)
  rw [q0] at k0; rw [q1] at k1; rw [q2] at k2
  exact ⟨k0, k1, k2⟩
theorem RD.rc (h : RD g g1 g2 w name a n c ws behind D ρ1) (hr : Rep D ρ2 nt sl (enRd name (.v (.slice a n c)) behind) a2 w2) (s2 : qy sl 2 = some (.c (.p 1 0))) (s3 : qy sl 3 = some (.c (.p 2 0))) : RC g g1 g2 w a2 w2 := by
  obtain ⟨q0, ⟨cp1, q1⟩, ⟨cp2, q2⟩⟩ := h.rho hr
  have t2 := (hr.tm _ _ s2).1
  have t3 := (hr.tm _ _ s3).1
  refine ⟨hr.df.trans h.df, ?_, ?_, h.upTo hr, h.n1, h.n2, h.ne, h.hg⟩
  · rw [t2]; simp [SV.den, SC.den, ptrOf, q1, ptrA, reOfV]
  · rw [t3]; simp [SV.den, SC.den, ptrOf, q2, ptrA, reOfV]
theorem RD.fault (h : RD g g1 g2 w name a n c ws behind D ρ1) {o : Rd'} (hQ : D.Q = bodyPostD Tryz.prog Tryz.f40 (RPost g w o)) (hr : Rep D ρ2 nt sl (enRd name (.v (.slice a n c)) behind) a2 w2) (s2 : qy sl 2 = some (.c (.p 1 0))) (s3 : qy sl 3 = some (.c (.p 2 0)))
    (hU : Upd (One g) w2 w3) {f : List UInt8} (hu : w3.cell? ⟨g, 3, none⟩ = some (.int .i64 0)) (ho : o = .fault f) : D.Q (.panic (faultE f)) a2 w3 := by
  obtain ⟨k0, k1, k2⟩ := h.blks hr
  rw [hQ]
  refine rc_fault (h.rc hr s2 s3) hU (k1.upd hU ?_) (k2.upd hU ?_) hu ho
  · intro e; have e : g1 = g := e; have := h.n1; have := h.hg; omega
  · intro e; have e : g2 = g := e; have := h.n2; have := h.hg; omega
theorem RD.rep (h : RD g g1 g2 w name a n c ws behind D ρ1) (hr : Rep D ρ2 nt sl (enRd name (.v (.slice a n c)) behind) a2 w2) (hU : Upd (One g) w2 w3) {d : Nat} (hd : d < nt) {v : SV} {u : Value} (hv : v.den ρ2 = u) (hvw : v.wf (· < 3)) {s : List (Nat × SV)} (hs : ∀ e x, qy s e = some x → qy sl e = some x ∧ x.wf (fun c => c = 1 ∨ c = 2)) :
    Rep (cx2 D g1 g2 w3 ρ2) ρ2 nt ((d, v) :: s) enRd' (a2.put (some d) u) w3 := by
  obtain ⟨q0, ⟨cp1, q1⟩, ⟨cp2, q2⟩⟩ := h.rho hr
  have l0 : deadE (ρ2 0) (zD (enRd name (.v (.slice a n c)) behind) 0) = false := (deadE_of rfl).2 ⟨(by show ¬ (77 : Nat) = DEAD; decide), by rw [q0]; rfl⟩
  have hk := hr.hw.kill (N := 0) (by show 0 < 3; decide) rfl l0 (w' := w3) (by rw [q0]; exact hU) (fun hb => (hr.hw.mu 0 _ _ (by show 0 < 3; decide) rfl).resolve_right (by omega))
  have hw3 : Hw (cx2 D g1 g2 w3 ρ2) ρ2 (· < 3) enRd' w3 := by
    refine ⟨hk.hp, hk.ho, hk.inj, Upd.refl _ _, ?_, fun _ _ => rfl⟩
    intro c ty cells hc he
    match c, hc with
    | 0, _ => simp [enRd', zD] at he
    | 1, _ => rw [q1]; exact .inl (.inl rfl)
    | 2, _ => rw [q2]; exact .inl (.inr rfl)
  have hr3 : Rep (cx2 D g1 g2 w3 ρ2) ρ2 nt s enRd' a2 w3 := by
    refine ⟨hw3, fun e x he => ?_, hr.sz, hr.df, Nat.le_refl _⟩
    obtain ⟨h1, h2⟩ := hs e x he
    exact ⟨(hr.tm e x h1).1, SV.wf_mono h2 (fun c hc => by show c < 3; omega)⟩
  rw [← hv]
  exact hr3.put hd hvw
theorem RD.ret (h : RD g g1 g2 w name a n c ws behind D ρ1) {o : Rd'} (hQ : D.Q = bodyPostD Tryz.prog Tryz.f40 (RPost g w o)) (hr : Rep D ρ2 nt sl (enRd name (.v (.slice a n c)) behind) a2 w2) (hU : Upd (One g) w2 w3) {k : List KI} {s : List (Nat × SV)} {cv : Value} {r : Rq} {more : Bool} {used : Int}
    (hu : w3.cell? ⟨g, 3, none⟩ = some (.int .i64 used)) (hc : CmdV w2.heap.size w3 cv r.cmds) (ho : o = .got r more used) (s2 : qy s 2 = some (.c (.p 1 0))) (s3 : qy s 3 = some (.c (.p 2 0))) :
    Run (cx2 D g1 g2 w3 ρ2) (.code .ret :: k) nt s [⟨(4294967295, 0, whole), [], false⟩, ⟨(30, 0, whole), rqS (.v cv) r, true⟩, ⟨(4, 0, whole), [.b more], true⟩] := by
  obtain ⟨q0, ⟨cp1, q1⟩, ⟨cp2, q2⟩⟩ := h.rho hr
  intro ρ4 a4 w4 hr4
  refine wp_ret (KQ_ret k a4 w4 ?_)
  show D.Q .ret a4 w4
  rw [hQ]
  have i : ∀ c, c < 3 → ρ4 c = ρ2 c := fun c hc => hr4.hw.ini c hc
  have q1' := (i 1 (by decide)).trans q1
  have q2' := (i 2 (by decide)).trans q2
  obtain ⟨k1, _⟩ := ent_blkV (c := 1) hr4.hw.hp hr4.hw.ho (by show 1 < 3; decide) rfl (by decide) (by simp [rqS])
  obtain ⟨k2, _⟩ := ent_blkV (c := 2) hr4.hw.hp hr4.hw.ho (by show 2 < 3; decide) rfl (by decide) (by simp)
  rw [q1'] at k1; rw [q2'] at k2
  have hup : Upd (Two g1 g2) w3 w4 := hr4.hw.up
  have hs3 := (h.upTo hr).size
  have hT : ∀ k, Two g1 g2 k → w.heap.size ≤ k := fun k hk => by
    have := h.n1; have := h.n2
    rcases hk with e | e <;> (have e : k = _ := e; omega)
  have hfit := h.blks hr
  have l1 : g1 < w2.heap.size := hfit.2.1.lt
  have l2 : g2 < w2.heap.size := hfit.2.2.lt
  refine rc_ret (w := w) ⟨hr4.df.trans h.df, ?_, ?_, ?_, h.n1, h.n2, h.ne, h.hg⟩ k1 k2 ?_ ?_ ho
  · rw [(hr4.tm _ _ s2).1]; simp [SV.den, SC.den, ptrOf, q1', ptrA, reOfV]
  · rw [(hr4.tm _ _ s3).1]; simp [SV.den, SC.den, ptrOf, q2', ptrA, reOfV]
  · exact ((h.upTo hr).same hU).trans hup fun k hk ht => absurd hk (by have := hT k ht; omega)
  · have hlt : g < w3.heap.size := by have := hU.size; have := h.hg; omega
    rw [hup.cell (p := ⟨g, 3, none⟩) hlt (fun ht => by have := hT g ht; have := h.hg; omega)]
    exact hu
  · rcases hc with hc | ⟨h0, gc, cap, rest, m1, m2, m3, m4⟩
    · exact .inl hc
    · refine .inr ⟨h0, gc, cap, rest, m1, by omega, ?_, m4⟩
      rw [hup.block gc (Array.getElem?_eq_some_iff.1 m3).1 (by rintro (e | e) <;> (have e : gc = _ := e; omega))]
      exact m3
end
theorem read_wV {name : List UInt8} {w : World} {g : Nat} {a : Option Addr} {c : Nat} {ws : List (List UInt8)} {behind : List UInt8} (h : Ln w g name a ws.length c ws behind 0 false) (hnl : name.length ≤ 100000) (hn : ws.length ≤ 100000) (hl : ∀ x ∈ ws, x.length ≤ 100000) (hb : behind.length ≤ 9223372036854775807) (hE0 : EnvG g w) :
    Calls Tryz.prog 40 #[.pointer (some ⟨g, 0, none⟩)] w (RPost g w (readR name ws behind)) := by
  refine calls_of_RunD Tryz.func40 rfl kp40 (S := One g) (ρ := fun _ => reOfV g) [.c (.p 0 0)] Tryz.ntmps40 (ln_at h.blk true (One g) (fun _ => rfl)) (by simp [SV.wf, SC.wf]) (by simp) ?_
  intro C hC hP hk
  have hctr := noC_ok hP
  obtain ⟨o, hR⟩ : ∃ o, o = readR name ws behind := ⟨_, rfl⟩
  rw [← hR] at hC
  (refine VT_ok hctr (rs := [.tmp 99999]) true 300 _ _ _ ?_; simp (maxSteps := 1000000) only [VT, jf, jg, jZ, ja, jd, je, VC, qA, qB, qC, qD, qE, qF, qG, qH, qI, qJ, qK, qL, qM, qN, qO, qP, qQ, qR, qS, qT, qU, qV, qW, qX, qY, qZ, qe, qf, qg, qh, qj, qk, ql, qm, qn, qo, qp, qq, q0t, qu, qv, ev, qw, qy, qz, zA, zB, zC, zD, zE, zF, zG, zH, zI, zJ, TE.sv, zK, zL, zM, ↓reduceIte, reduceCtorEq, Value.oneCell', Nat.reduceEqDiff, Nat.reduceAdd, Nat.reduceLT, Nat.reduceBEq, Nat.reduceSub, Nat.reduceLeDiff, zP, zQ, zR, zS, zT, zU, zV, zW, zX, zY, zZ, za, zb, zc, zd, ze, zf, zg, zh, zi, zj, zk, zl, zm, zn, zo, zp, zq, zr, zt, zu, zw, zx, zy, zz, cE, jA, jB, hap, killE, deadOf, rwE, cD, cO, jC, jD, jE, jF, jG, jH, jI, jJ, jK, jL, jM, jN, jO, jP, jQ, jR, jS, jT, jU, jV, jW, jX, jY, hP, hk, kp40, noC, lnC, rqS, noCmds, Rq.zero, lb1, lb2, lb3, lb4, u8b, UInt8.reduceToNat])
  refine Run_defer rfl fun ρ1 w1 hw1 hn1 => ?_
  have i0 : ρ1 0 = reOfV g := by rw [hw1.ini 0 (by rw [hC]; exact Nat.zero_lt_one), hC]; rfl
  obtain ⟨k1, p1, r1a, r1b, r1n⟩ := ent_blkV (c := 1) hw1.hp hw1.ho (by show 1 < 3; decide) rfl (by decide) (by simp)
  obtain ⟨k2, p2, r2a, r2b, r2n⟩ := ent_blkV (c := 2) hw1.hp hw1.ho (by show 2 < 3; decide) rfl (by decide) (by simp)
  obtain ⟨g1, hg1⟩ : ∃ g1, g1 = (ρ1 1).blk := ⟨_, rfl⟩
  obtain ⟨g2, hg2⟩ : ∃ g2, g2 = (ρ1 2).blk := ⟨_, rfl⟩
  have hgl : g < w.heap.size := h.blk.lt
  have m1 := hw1.mu 1 _ _ (by show 1 < 3; decide) rfl
  have m2 := hw1.mu 2 _ _ (by show 2 < 3; decide) rfl
  have l0 : deadE (ρ1 0) (zD (enRd name (.v (.slice a ws.length c)) behind) 0) = false := (deadE_of rfl).2 ⟨(by show ¬ (77 : Nat) = DEAD; decide), by rw [i0]; rfl⟩
  have l1 : deadE (ρ1 1) (zD (enRd name (.v (.slice a ws.length c)) behind) 1) = false := (deadE_of rfl).2 ⟨(by show ¬ (30 : Nat) = DEAD; decide), r1n⟩
  have l2 : deadE (ρ1 2) (zD (enRd name (.v (.slice a ws.length c)) behind) 2) = false := (deadE_of rfl).2 ⟨(by show ¬ (4 : Nat) = DEAD; decide), r2n⟩
  have n01 : g1 ≠ g := fun e => by have := hw1.inj 0 1 (by show 0 < 3; decide) (by show 1 < 3; decide) l0 l1 (by rw [i0, ← hg1, e]; rfl); cases this
  have n02 : g2 ≠ g := fun e => by have := hw1.inj 0 2 (by show 0 < 3; decide) (by show 2 < 3; decide) l0 l2 (by rw [i0, ← hg2, e]; rfl); cases this
  have n12 : g1 ≠ g2 := fun e => by have := hw1.inj 1 2 (by show 1 < 3; decide) (by show 2 < 3; decide) l1 l2 (by rw [← hg1, ← hg2, e]); cases this
  have hS : C.S = One g := by rw [hC]; rfl
  have hw0 : C.w0 = w := by rw [hC]; rfl
  rw [hS, hw0, ← hg1] at m1
  rw [hS, hw0, ← hg2] at m2
  have hup1 := hw1.up
  rw [hS, hw0] at hup1
  generalize hD : cxReb C ρ1 w1 _ _ = D
  have hRD : RD g g1 g2 w name a ws.length c ws behind D ρ1 := by
    subst hD
    exact ⟨hP, fun k hk => by rw [show (cxReb C ρ1 w1 _ _).S k = (C.S k ∨ C.w0.heap.size ≤ k) from rfl, hS, hw0] at hk; exact hk, hup1, rfl, rfl, i0, ⟨_, show ρ1 1 = ⟨g1, [], [], (ρ1 1).cap, none⟩ by rw [hg1]; exact re_eq r1a r1b r1n⟩, ⟨_, show ρ1 2 = ⟨g2, [], [], (ρ1 2).cap, none⟩ by rw [hg2]; exact re_eq r2a r2b r2n⟩, by
      show _ :: C.df = _
      rw [hC]
      simp [cxD, recD, p1, p2, ptrA, hg1, hg2], m1.resolve_left n01, m2.resolve_left n02, n12, hgl⟩
  have hQ : D.Q = bodyPostD Tryz.prog Tryz.f40 (RPost g w o) := by subst hD; rw [show (cxReb C ρ1 w1 _ _).Q = C.Q from rfl, hC]; rfl
  have hkD : D.kp = kp40 := by subst hD; exact hk
  have hPD := hRD.P
  clear hD
  have hP := hPD; have hk := hkD
  have hctr := noC_ok hP
  by_cases h0 : name = [103, 101, 116]
  · subst h0
    (refine VT_ok hctr (rs := [.tmp 99999]) true 300 _ _ _ ?_; simp (maxSteps := 1000000) only [VT, jf, jg, jZ, ja, jd, je, VC, qA, qB, qC, qD, qE, qF, qG, qH, qI, qJ, qK, qL, qM, qN, qO, qP, qQ, qR, qS, qT, qU, qV, qW, qX, qY, qZ, qe, qf, qg, qh, qj, qk, ql, qm, qn, qo, qp, qq, q0t, qu, qv, ev, qw, qy, qz, zA, zB, zC, zD, zE, zF, zG, zH, zI, zJ, TE.sv, zK, zL, zM, ↓reduceIte, reduceCtorEq, Value.oneCell', Nat.reduceEqDiff, Nat.reduceAdd, Nat.reduceLT, Nat.reduceBEq, Nat.reduceSub, Nat.reduceLeDiff, zP, zQ, zR, zS, zT, zU, zV, zW, zX, zY, zZ, za, zb, zc, zd, ze, zf, zg, zh, zi, zj, zk, zl, zm, zn, zo, zp, zq, zr, zt, zu, zw, zx, zy, zz, cE, jA, jB, hap, killE, deadOf, rwE, cD, cO, jC, jD, jE, jF, jG, jH, jI, jJ, jK, jL, jM, jN, jO, jP, jQ, jR, jS, jT, jU, jV, jW, jX, jY, hP, hk, kp40, noC, lnC, rqS, noCmds, Rq.zero, lb1, lb2, lb3, lb4, u8b, UInt8.reduceToNat])
    have hR : o = getR [103, 101, 116] ws := hR.trans (by simp [readR])
    refine Run_ocall rfl rfl (fun args w => by rw [hP]; exact Tryz.call54 args w) (fun ρ2 a2 w2 hr2 hwf => ?_)
    have hB := hRD.blks hr2
    have hup := hRD.upTo hr2
    have hLn : Ln w2 g [103, 101, 116] a ws.length c ws behind 0 false := ⟨hB.1, h.raw.upd hup, Nat.le_refl _, h.cap⟩
    have hargs : (List.map (SV.den ρ2) [.c (.p 0 0)]).toArray = #[.pointer (some ⟨g, 0, none⟩)] := by
      obtain ⟨q0, _⟩ := hRD.rho hr2
      simp [SV.den, SC.den, ptrOf, q0, reOfV]
    rw [hP, hargs]
    refine (get_w hLn hnl hn hl (hE0.upd hup)).mono ?_
    rintro e w3 ⟨hU3, hm⟩
    cases ho : getR [103, 101, 116] ws with
    | fault f =>
      rw [ho] at hm
      obtain ⟨rfl, hu⟩ := hm
      exact .inr ⟨_, rfl, hRD.fault hQ hr2 rfl rfl hU3 hu (hR.trans ho)⟩
    | got r more used =>
      rw [ho] at hm
      obtain ⟨v, rfl, ⟨cv, rfl, hcv⟩, hu⟩ := hm
      obtain ⟨sa, sn, sc, rfl⟩ := cmdv_sl hcv
      refine .inl ⟨_, rfl, ?_⟩
      have hrep := hRD.rep hr2 hU3 (d := 15) (by decide) (v := .g (rqS (.v (.slice sa sn sc)) r)) rfl (rq_wf _ _ _) (s := [(2, .c (.p 1 0)), (3, .c (.p 2 0))]) (fun e x he => by
        simp only [qy] at he
        split at he
        · rename_i e'; subst e'; cases he; exact ⟨rfl, .inl rfl⟩
        · split at he
          · rename_i e'; subst e'; cases he; exact ⟨rfl, .inr rfl⟩
          · cases he)
      obtain ⟨C2, hC2⟩ : ∃ C2, C2 = cx2 D g1 g2 w3 ρ2 := ⟨_, rfl⟩
      rw [← hC2] at hrep
      rw [← KQ_congr (C := D) (D := C2) (by rw [hC2]; rfl) (by rw [hC2]; rfl)]
      have hP2 : C2.P = Tryz.prog := by rw [hC2]; exact hP
      have hk2 : C2.kp = kp40 := by rw [hC2]; exact hk
      refine (?_ : Run C2 _ 29 _ enRd') ρ2 _ w3 hrep
      clear hrep
      have hP := hP2; have hk := hk2
      have hctr := noC_ok hP
      (refine VT_ok hctr (rs := [.tmp 99999]) true 300 _ _ _ ?_; simp (maxSteps := 1000000) only [VT, jf, jg, jZ, ja, jd, je, VC, qA, qB, qC, qD, qE, qF, qG, qH, qI, qJ, qK, qL, qM, qN, qO, qP, qQ, qR, qS, qT, qU, qV, qW, qX, qY, qZ, qe, qf, qg, qh, qj, qk, ql, qm, qn, qo, qp, qq, q0t, qu, qv, ev, qw, qy, qz, zA, zB, zC, zD, zE, zF, zG, zH, zI, zJ, TE.sv, zK, zL, zM, ↓reduceIte, reduceCtorEq, Value.oneCell', Nat.reduceEqDiff, Nat.reduceAdd, Nat.reduceLT, Nat.reduceBEq, Nat.reduceSub, Nat.reduceLeDiff, zP, zQ, zR, zS, zT, zU, zV, zW, zX, zY, zZ, za, zb, zc, zd, ze, zf, zg, zh, zi, zj, zk, zl, zm, zn, zo, zp, zq, zr, zt, zu, zw, zx, zy, zz, cE, jA, jB, hap, killE, deadOf, rwE, cD, cO, jC, jD, jE, jF, jG, jH, jI, jJ, jK, jL, jM, jN, jO, jP, jQ, jR, jS, jT, jU, jV, jW, jX, jY, hP, hk, kp40, noC, lnC, rqS, noCmds, Rq.zero, lb1, lb2, lb3, lb4, u8b, UInt8.reduceToNat, enRd'])
      rw [hC2]
      have hmo := get_more ho
      subst hmo
      exact hRD.ret hQ hr2 hU3 hu hcv (hR.trans ho) (by rfl) (by rfl)
  by_cases h1 : name = [103, 101, 116, 115]
  · subst h1
    (refine VT_ok hctr (rs := [.tmp 99999]) true 300 _ _ _ ?_; simp (maxSteps := 1000000) only [VT, jf, jg, jZ, ja, jd, je, VC, qA, qB, qC, qD, qE, qF, qG, qH, qI, qJ, qK, qL, qM, qN, qO, qP, qQ, qR, qS, qT, qU, qV, qW, qX, qY, qZ, qe, qf, qg, qh, qj, qk, ql, qm, qn, qo, qp, qq, q0t, qu, qv, ev, qw, qy, qz, zA, zB, zC, zD, zE, zF, zG, zH, zI, zJ, TE.sv, zK, zL, zM, ↓reduceIte, reduceCtorEq, Value.oneCell', Nat.reduceEqDiff, Nat.reduceAdd, Nat.reduceLT, Nat.reduceBEq, Nat.reduceSub, Nat.reduceLeDiff, zP, zQ, zR, zS, zT, zU, zV, zW, zX, zY, zZ, za, zb, zc, zd, ze, zf, zg, zh, zi, zj, zk, zl, zm, zn, zo, zp, zq, zr, zt, zu, zw, zx, zy, zz, cE, jA, jB, hap, killE, deadOf, rwE, cD, cO, jC, jD, jE, jF, jG, jH, jI, jJ, jK, jL, jM, jN, jO, jP, jQ, jR, jS, jT, jU, jV, jW, jX, jY, hP, hk, kp40, noC, lnC, rqS, noCmds, Rq.zero, lb1, lb2, lb3, lb4, u8b, UInt8.reduceToNat])
    have hR : o = getR [103, 101, 116, 115] ws := hR.trans (by simp [readR])
    refine Run_ocall rfl rfl (fun args w => by rw [hP]; exact Tryz.call54 args w) (fun ρ2 a2 w2 hr2 hwf => ?_)
    have hB := hRD.blks hr2
    have hup := hRD.upTo hr2
    have hLn : Ln w2 g [103, 101, 116, 115] a ws.length c ws behind 0 false := ⟨hB.1, h.raw.upd hup, Nat.le_refl _, h.cap⟩
    have hargs : (List.map (SV.den ρ2) [.c (.p 0 0)]).toArray = #[.pointer (some ⟨g, 0, none⟩)] := by
      obtain ⟨q0, _⟩ := hRD.rho hr2
      simp [SV.den, SC.den, ptrOf, q0, reOfV]
    rw [hP, hargs]
    refine (get_w hLn hnl hn hl (hE0.upd hup)).mono ?_
    rintro e w3 ⟨hU3, hm⟩
    cases ho : getR [103, 101, 116, 115] ws with
    | fault f =>
      rw [ho] at hm
      obtain ⟨rfl, hu⟩ := hm
      exact .inr ⟨_, rfl, hRD.fault hQ hr2 rfl rfl hU3 hu (hR.trans ho)⟩
    | got r more used =>
      rw [ho] at hm
      obtain ⟨v, rfl, ⟨cv, rfl, hcv⟩, hu⟩ := hm
      obtain ⟨sa, sn, sc, rfl⟩ := cmdv_sl hcv
      refine .inl ⟨_, rfl, ?_⟩
      have hrep := hRD.rep hr2 hU3 (d := 15) (by decide) (v := .g (rqS (.v (.slice sa sn sc)) r)) rfl (rq_wf _ _ _) (s := [(2, .c (.p 1 0)), (3, .c (.p 2 0))]) (fun e x he => by
        simp only [qy] at he
        split at he
        · rename_i e'; subst e'; cases he; exact ⟨rfl, .inl rfl⟩
        · split at he
          · rename_i e'; subst e'; cases he; exact ⟨rfl, .inr rfl⟩
          · cases he)
      obtain ⟨C2, hC2⟩ : ∃ C2, C2 = cx2 D g1 g2 w3 ρ2 := ⟨_, rfl⟩
      rw [← hC2] at hrep
      rw [← KQ_congr (C := D) (D := C2) (by rw [hC2]; rfl) (by rw [hC2]; rfl)]
      have hP2 : C2.P = Tryz.prog := by rw [hC2]; exact hP
      have hk2 : C2.kp = kp40 := by rw [hC2]; exact hk
      refine (?_ : Run C2 _ 29 _ enRd') ρ2 _ w3 hrep
      clear hrep
      have hP := hP2; have hk := hk2
      have hctr := noC_ok hP
      (refine VT_ok hctr (rs := [.tmp 99999]) true 300 _ _ _ ?_; simp (maxSteps := 1000000) only [VT, jf, jg, jZ, ja, jd, je, VC, qA, qB, qC, qD, qE, qF, qG, qH, qI, qJ, qK, qL, qM, qN, qO, qP, qQ, qR, qS, qT, qU, qV, qW, qX, qY, qZ, qe, qf, qg, qh, qj, qk, ql, qm, qn, qo, qp, qq, q0t, qu, qv, ev, qw, qy, qz, zA, zB, zC, zD, zE, zF, zG, zH, zI, zJ, TE.sv, zK, zL, zM, ↓reduceIte, reduceCtorEq, Value.oneCell', Nat.reduceEqDiff, Nat.reduceAdd, Nat.reduceLT, Nat.reduceBEq, Nat.reduceSub, Nat.reduceLeDiff, zP, zQ, zR, zS, zT, zU, zV, zW, zX, zY, zZ, za, zb, zc, zd, ze, zf, zg, zh, zi, zj, zk, zl, zm, zn, zo, zp, zq, zr, zt, zu, zw, zx, zy, zz, cE, jA, jB, hap, killE, deadOf, rwE, cD, cO, jC, jD, jE, jF, jG, jH, jI, jJ, jK, jL, jM, jN, jO, jP, jQ, jR, jS, jT, jU, jV, jW, jX, jY, hP, hk, kp40, noC, lnC, rqS, noCmds, Rq.zero, lb1, lb2, lb3, lb4, u8b, UInt8.reduceToNat, enRd'])
      rw [hC2]
      have hmo := get_more ho
      subst hmo
      exact hRD.ret hQ hr2 hU3 hu hcv (hR.trans ho) (by rfl) (by rfl)
  by_cases h2 : name = [103, 97, 116]
  · subst h2
    (refine VT_ok hctr (rs := [.tmp 99999]) true 300 _ _ _ ?_; simp (maxSteps := 1000000) only [VT, jf, jg, jZ, ja, jd, je, VC, qA, qB, qC, qD, qE, qF, qG, qH, qI, qJ, qK, qL, qM, qN, qO, qP, qQ, qR, qS, qT, qU, qV, qW, qX, qY, qZ, qe, qf, qg, qh, qj, qk, ql, qm, qn, qo, qp, qq, q0t, qu, qv, ev, qw, qy, qz, zA, zB, zC, zD, zE, zF, zG, zH, zI, zJ, TE.sv, zK, zL, zM, ↓reduceIte, reduceCtorEq, Value.oneCell', Nat.reduceEqDiff, Nat.reduceAdd, Nat.reduceLT, Nat.reduceBEq, Nat.reduceSub, Nat.reduceLeDiff, zP, zQ, zR, zS, zT, zU, zV, zW, zX, zY, zZ, za, zb, zc, zd, ze, zf, zg, zh, zi, zj, zk, zl, zm, zn, zo, zp, zq, zr, zt, zu, zw, zx, zy, zz, cE, jA, jB, hap, killE, deadOf, rwE, cD, cO, jC, jD, jE, jF, jG, jH, jI, jJ, jK, jL, jM, jN, jO, jP, jQ, jR, jS, jT, jU, jV, jW, jX, jY, hP, hk, kp40, noC, lnC, rqS, noCmds, Rq.zero, lb1, lb2, lb3, lb4, u8b, UInt8.reduceToNat])
    have hR : o = getR [103, 97, 116] ws := hR.trans (by simp [readR])
    refine Run_ocall rfl rfl (fun args w => by rw [hP]; exact Tryz.call54 args w) (fun ρ2 a2 w2 hr2 hwf => ?_)
    have hB := hRD.blks hr2
    have hup := hRD.upTo hr2
    have hLn : Ln w2 g [103, 97, 116] a ws.length c ws behind 0 false := ⟨hB.1, h.raw.upd hup, Nat.le_refl _, h.cap⟩
    have hargs : (List.map (SV.den ρ2) [.c (.p 0 0)]).toArray = #[.pointer (some ⟨g, 0, none⟩)] := by
      obtain ⟨q0, _⟩ := hRD.rho hr2
      simp [SV.den, SC.den, ptrOf, q0, reOfV]
    rw [hP, hargs]
    refine (get_w hLn hnl hn hl (hE0.upd hup)).mono ?_
    rintro e w3 ⟨hU3, hm⟩
    cases ho : getR [103, 97, 116] ws with
    | fault f =>
      rw [ho] at hm
      obtain ⟨rfl, hu⟩ := hm
      exact .inr ⟨_, rfl, hRD.fault hQ hr2 rfl rfl hU3 hu (hR.trans ho)⟩
    | got r more used =>
      rw [ho] at hm
      obtain ⟨v, rfl, ⟨cv, rfl, hcv⟩, hu⟩ := hm
      obtain ⟨sa, sn, sc, rfl⟩ := cmdv_sl hcv
      refine .inl ⟨_, rfl, ?_⟩
      have hrep := hRD.rep hr2 hU3 (d := 15) (by decide) (v := .g (rqS (.v (.slice sa sn sc)) r)) rfl (rq_wf _ _ _) (s := [(2, .c (.p 1 0)), (3, .c (.p 2 0))]) (fun e x he => by
        simp only [qy] at he
        split at he
        · rename_i e'; subst e'; cases he; exact ⟨rfl, .inl rfl⟩
        · split at he
          · rename_i e'; subst e'; cases he; exact ⟨rfl, .inr rfl⟩
          · cases he)
      obtain ⟨C2, hC2⟩ : ∃ C2, C2 = cx2 D g1 g2 w3 ρ2 := ⟨_, rfl⟩
      rw [← hC2] at hrep
      rw [← KQ_congr (C := D) (D := C2) (by rw [hC2]; rfl) (by rw [hC2]; rfl)]
      have hP2 : C2.P = Tryz.prog := by rw [hC2]; exact hP
      have hk2 : C2.kp = kp40 := by rw [hC2]; exact hk
      refine (?_ : Run C2 _ 29 _ enRd') ρ2 _ w3 hrep
      clear hrep
      have hP := hP2; have hk := hk2
      have hctr := noC_ok hP
      (refine VT_ok hctr (rs := [.tmp 99999]) true 300 _ _ _ ?_; simp (maxSteps := 1000000) only [VT, jf, jg, jZ, ja, jd, je, VC, qA, qB, qC, qD, qE, qF, qG, qH, qI, qJ, qK, qL, qM, qN, qO, qP, qQ, qR, qS, qT, qU, qV, qW, qX, qY, qZ, qe, qf, qg, qh, qj, qk, ql, qm, qn, qo, qp, qq, q0t, qu, qv, ev, qw, qy, qz, zA, zB, zC, zD, zE, zF, zG, zH, zI, zJ, TE.sv, zK, zL, zM, ↓reduceIte, reduceCtorEq, Value.oneCell', Nat.reduceEqDiff, Nat.reduceAdd, Nat.reduceLT, Nat.reduceBEq, Nat.reduceSub, Nat.reduceLeDiff, zP, zQ, zR, zS, zT, zU, zV, zW, zX, zY, zZ, za, zb, zc, zd, ze, zf, zg, zh, zi, zj, zk, zl, zm, zn, zo, zp, zq, zr, zt, zu, zw, zx, zy, zz, cE, jA, jB, hap, killE, deadOf, rwE, cD, cO, jC, jD, jE, jF, jG, jH, jI, jJ, jK, jL, jM, jN, jO, jP, jQ, jR, jS, jT, jU, jV, jW, jX, jY, hP, hk, kp40, noC, lnC, rqS, noCmds, Rq.zero, lb1, lb2, lb3, lb4, u8b, UInt8.reduceToNat, enRd'])
      rw [hC2]
      have hmo := get_more ho
      subst hmo
      exact hRD.ret hQ hr2 hU3 hu hcv (hR.trans ho) (by rfl) (by rfl)
  by_cases h3 : name = [103, 97, 116, 115]
  · subst h3
    (refine VT_ok hctr (rs := [.tmp 99999]) true 300 _ _ _ ?_; simp (maxSteps := 1000000) only [VT, jf, jg, jZ, ja, jd, je, VC, qA, qB, qC, qD, qE, qF, qG, qH, qI, qJ, qK, qL, qM, qN, qO, qP, qQ, qR, qS, qT, qU, qV, qW, qX, qY, qZ, qe, qf, qg, qh, qj, qk, ql, qm, qn, qo, qp, qq, q0t, qu, qv, ev, qw, qy, qz, zA, zB, zC, zD, zE, zF, zG, zH, zI, zJ, TE.sv, zK, zL, zM, ↓reduceIte, reduceCtorEq, Value.oneCell', Nat.reduceEqDiff, Nat.reduceAdd, Nat.reduceLT, Nat.reduceBEq, Nat.reduceSub, Nat.reduceLeDiff, zP, zQ, zR, zS, zT, zU, zV, zW, zX, zY, zZ, za, zb, zc, zd, ze, zf, zg, zh, zi, zj, zk, zl, zm, zn, zo, zp, zq, zr, zt, zu, zw, zx, zy, zz, cE, jA, jB, hap, killE, deadOf, rwE, cD, cO, jC, jD, jE, jF, jG, jH, jI, jJ, jK, jL, jM, jN, jO, jP, jQ, jR, jS, jT, jU, jV, jW, jX, jY, hP, hk, kp40, noC, lnC, rqS, noCmds, Rq.zero, lb1, lb2, lb3, lb4, u8b, UInt8.reduceToNat])
    have hR : o = getR [103, 97, 116, 115] ws := hR.trans (by simp [readR])
    refine Run_ocall rfl rfl (fun args w => by rw [hP]; exact Tryz.call54 args w) (fun ρ2 a2 w2 hr2 hwf => ?_)
    have hB := hRD.blks hr2
    have hup := hRD.upTo hr2
    have hLn : Ln w2 g [103, 97, 116, 115] a ws.length c ws behind 0 false := ⟨hB.1, h.raw.upd hup, Nat.le_refl _, h.cap⟩
    have hargs : (List.map (SV.den ρ2) [.c (.p 0 0)]).toArray = #[.pointer (some ⟨g, 0, none⟩)] := by
      obtain ⟨q0, _⟩ := hRD.rho hr2
      simp [SV.den, SC.den, ptrOf, q0, reOfV]
    rw [hP, hargs]
    refine (get_w hLn hnl hn hl (hE0.upd hup)).mono ?_
    rintro e w3 ⟨hU3, hm⟩
    cases ho : getR [103, 97, 116, 115] ws with
    | fault f =>
      rw [ho] at hm
      obtain ⟨rfl, hu⟩ := hm
      exact .inr ⟨_, rfl, hRD.fault hQ hr2 rfl rfl hU3 hu (hR.trans ho)⟩
    | got r more used =>
      rw [ho] at hm
      obtain ⟨v, rfl, ⟨cv, rfl, hcv⟩, hu⟩ := hm
      obtain ⟨sa, sn, sc, rfl⟩ := cmdv_sl hcv
      refine .inl ⟨_, rfl, ?_⟩
      have hrep := hRD.rep hr2 hU3 (d := 15) (by decide) (v := .g (rqS (.v (.slice sa sn sc)) r)) rfl (rq_wf _ _ _) (s := [(2, .c (.p 1 0)), (3, .c (.p 2 0))]) (fun e x he => by
        simp only [qy] at he
        split at he
        · rename_i e'; subst e'; cases he; exact ⟨rfl, .inl rfl⟩
        · split at he
          · rename_i e'; subst e'; cases he; exact ⟨rfl, .inr rfl⟩
          · cases he)
      obtain ⟨C2, hC2⟩ : ∃ C2, C2 = cx2 D g1 g2 w3 ρ2 := ⟨_, rfl⟩
      rw [← hC2] at hrep
      rw [← KQ_congr (C := D) (D := C2) (by rw [hC2]; rfl) (by rw [hC2]; rfl)]
      have hP2 : C2.P = Tryz.prog := by rw [hC2]; exact hP
      have hk2 : C2.kp = kp40 := by rw [hC2]; exact hk
      refine (?_ : Run C2 _ 29 _ enRd') ρ2 _ w3 hrep
      clear hrep
      have hP := hP2; have hk := hk2
      have hctr := noC_ok hP
      (refine VT_ok hctr (rs := [.tmp 99999]) true 300 _ _ _ ?_; simp (maxSteps := 1000000) only [VT, jf, jg, jZ, ja, jd, je, VC, qA, qB, qC, qD, qE, qF, qG, qH, qI, qJ, qK, qL, qM, qN, qO, qP, qQ, qR, qS, qT, qU, qV, qW, qX, qY, qZ, qe, qf, qg, qh, qj, qk, ql, qm, qn, qo, qp, qq, q0t, qu, qv, ev, qw, qy, qz, zA, zB, zC, zD, zE, zF, zG, zH, zI, zJ, TE.sv, zK, zL, zM, ↓reduceIte, reduceCtorEq, Value.oneCell', Nat.reduceEqDiff, Nat.reduceAdd, Nat.reduceLT, Nat.reduceBEq, Nat.reduceSub, Nat.reduceLeDiff, zP, zQ, zR, zS, zT, zU, zV, zW, zX, zY, zZ, za, zb, zc, zd, ze, zf, zg, zh, zi, zj, zk, zl, zm, zn, zo, zp, zq, zr, zt, zu, zw, zx, zy, zz, cE, jA, jB, hap, killE, deadOf, rwE, cD, cO, jC, jD, jE, jF, jG, jH, jI, jJ, jK, jL, jM, jN, jO, jP, jQ, jR, jS, jT, jU, jV, jW, jX, jY, hP, hk, kp40, noC, lnC, rqS, noCmds, Rq.zero, lb1, lb2, lb3, lb4, u8b, UInt8.reduceToNat, enRd'])
      rw [hC2]
      have hmo := get_more ho
      subst hmo
      exact hRD.ret hQ hr2 hU3 hu hcv (hR.trans ho) (by rfl) (by rfl)
  by_cases h4 : name = [115, 101, 116]
  · subst h4
    (refine VT_ok hctr (rs := [.tmp 99999]) true 300 _ _ _ ?_; simp (maxSteps := 1000000) only [VT, jf, jg, jZ, ja, jd, je, VC, qA, qB, qC, qD, qE, qF, qG, qH, qI, qJ, qK, qL, qM, qN, qO, qP, qQ, qR, qS, qT, qU, qV, qW, qX, qY, qZ, qe, qf, qg, qh, qj, qk, ql, qm, qn, qo, qp, qq, q0t, qu, qv, ev, qw, qy, qz, zA, zB, zC, zD, zE, zF, zG, zH, zI, zJ, TE.sv, zK, zL, zM, ↓reduceIte, reduceCtorEq, Value.oneCell', Nat.reduceEqDiff, Nat.reduceAdd, Nat.reduceLT, Nat.reduceBEq, Nat.reduceSub, Nat.reduceLeDiff, zP, zQ, zR, zS, zT, zU, zV, zW, zX, zY, zZ, za, zb, zc, zd, ze, zf, zg, zh, zi, zj, zk, zl, zm, zn, zo, zp, zq, zr, zt, zu, zw, zx, zy, zz, cE, jA, jB, hap, killE, deadOf, rwE, cD, cO, jC, jD, jE, jF, jG, jH, jI, jJ, jK, jL, jM, jN, jO, jP, jQ, jR, jS, jT, jU, jV, jW, jX, jY, hP, hk, kp40, noC, lnC, rqS, noCmds, Rq.zero, lb1, lb2, lb3, lb4, u8b, UInt8.reduceToNat])
    have hR : o = storeR [115, 101, 116] ws behind := hR.trans (by simp [readR])
    refine Run_ocall rfl rfl (fun args w => by rw [hP]; exact Tryz.call55 args w) (fun ρ2 a2 w2 hr2 hwf => ?_)
    have hB := hRD.blks hr2
    have hup := hRD.upTo hr2
    have hLn : Ln w2 g [115, 101, 116] a ws.length c ws behind 0 false := ⟨hB.1, h.raw.upd hup, Nat.le_refl _, h.cap⟩
    have hargs : (List.map (SV.den ρ2) [.c (.p 0 0)]).toArray = #[.pointer (some ⟨g, 0, none⟩)] := by
      obtain ⟨q0, _⟩ := hRD.rho hr2
      simp [SV.den, SC.den, ptrOf, q0, reOfV]
    rw [hP, hargs]
    refine (store_w (by simp) hLn hn hl hb (hE0.upd hup)).mono ?_
    rintro e w3 ⟨hU3, hm⟩
    cases ho : storeR [115, 101, 116] ws behind with
    | fault f =>
      rw [ho] at hm
      obtain ⟨rfl, hu⟩ := hm
      exact .inr ⟨_, rfl, hRD.fault hQ hr2 rfl rfl hU3 hu (hR.trans ho)⟩
    | got r more used =>
      rw [ho] at hm
      obtain ⟨v, rfl, ⟨cv, rfl, hcv⟩, hu⟩ := hm
      obtain ⟨sa, sn, sc, rfl⟩ := cmdv_sl hcv
      refine .inl ⟨_, rfl, ?_⟩
      have hrep := hRD.rep hr2 hU3 (d := 24) (by decide) (v := .t [.g (rqS (.v (.slice sa sn sc)) r), .c (.b more)]) rfl (rq_wf2 _ _ _ _) (s := [(2, .c (.p 1 0)), (3, .c (.p 2 0))]) (fun e x he => by
        simp only [qy] at he
        split at he
        · rename_i e'; subst e'; cases he; exact ⟨rfl, .inl rfl⟩
        · split at he
          · rename_i e'; subst e'; cases he; exact ⟨rfl, .inr rfl⟩
          · cases he)
      obtain ⟨C2, hC2⟩ : ∃ C2, C2 = cx2 D g1 g2 w3 ρ2 := ⟨_, rfl⟩
      rw [← hC2] at hrep
      rw [← KQ_congr (C := D) (D := C2) (by rw [hC2]; rfl) (by rw [hC2]; rfl)]
      have hP2 : C2.P = Tryz.prog := by rw [hC2]; exact hP
      have hk2 : C2.kp = kp40 := by rw [hC2]; exact hk
      refine (?_ : Run C2 _ 29 _ enRd') ρ2 _ w3 hrep
      clear hrep
      have hP := hP2; have hk := hk2
      have hctr := noC_ok hP
      (refine VT_ok hctr (rs := [.tmp 99999]) true 300 _ _ _ ?_; simp (maxSteps := 1000000) only [VT, jf, jg, jZ, ja, jd, je, VC, qA, qB, qC, qD, qE, qF, qG, qH, qI, qJ, qK, qL, qM, qN, qO, qP, qQ, qR, qS, qT, qU, qV, qW, qX, qY, qZ, qe, qf, qg, qh, qj, qk, ql, qm, qn, qo, qp, qq, q0t, qu, qv, ev, qw, qy, qz, zA, zB, zC, zD, zE, zF, zG, zH, zI, zJ, TE.sv, zK, zL, zM, ↓reduceIte, reduceCtorEq, Value.oneCell', Nat.reduceEqDiff, Nat.reduceAdd, Nat.reduceLT, Nat.reduceBEq, Nat.reduceSub, Nat.reduceLeDiff, zP, zQ, zR, zS, zT, zU, zV, zW, zX, zY, zZ, za, zb, zc, zd, ze, zf, zg, zh, zi, zj, zk, zl, zm, zn, zo, zp, zq, zr, zt, zu, zw, zx, zy, zz, cE, jA, jB, hap, killE, deadOf, rwE, cD, cO, jC, jD, jE, jF, jG, jH, jI, jJ, jK, jL, jM, jN, jO, jP, jQ, jR, jS, jT, jU, jV, jW, jX, jY, hP, hk, kp40, noC, lnC, rqS, noCmds, Rq.zero, lb1, lb2, lb3, lb4, u8b, UInt8.reduceToNat, enRd'])
      rw [hC2]
      skip
      exact hRD.ret hQ hr2 hU3 hu hcv (hR.trans ho) (by rfl) (by rfl)
  by_cases h5 : name = [97, 100, 100]
  · subst h5
    (refine VT_ok hctr (rs := [.tmp 99999]) true 300 _ _ _ ?_; simp (maxSteps := 1000000) only [VT, jf, jg, jZ, ja, jd, je, VC, qA, qB, qC, qD, qE, qF, qG, qH, qI, qJ, qK, qL, qM, qN, qO, qP, qQ, qR, qS, qT, qU, qV, qW, qX, qY, qZ, qe, qf, qg, qh, qj, qk, ql, qm, qn, qo, qp, qq, q0t, qu, qv, ev, qw, qy, qz, zA, zB, zC, zD, zE, zF, zG, zH, zI, zJ, TE.sv, zK, zL, zM, ↓reduceIte, reduceCtorEq, Value.oneCell', Nat.reduceEqDiff, Nat.reduceAdd, Nat.reduceLT, Nat.reduceBEq, Nat.reduceSub, Nat.reduceLeDiff, zP, zQ, zR, zS, zT, zU, zV, zW, zX, zY, zZ, za, zb, zc, zd, ze, zf, zg, zh, zi, zj, zk, zl, zm, zn, zo, zp, zq, zr, zt, zu, zw, zx, zy, zz, cE, jA, jB, hap, killE, deadOf, rwE, cD, cO, jC, jD, jE, jF, jG, jH, jI, jJ, jK, jL, jM, jN, jO, jP, jQ, jR, jS, jT, jU, jV, jW, jX, jY, hP, hk, kp40, noC, lnC, rqS, noCmds, Rq.zero, lb1, lb2, lb3, lb4, u8b, UInt8.reduceToNat])
    have hR : o = storeR [97, 100, 100] ws behind := hR.trans (by simp [readR])
    refine Run_ocall rfl rfl (fun args w => by rw [hP]; exact Tryz.call55 args w) (fun ρ2 a2 w2 hr2 hwf => ?_)
    have hB := hRD.blks hr2
    have hup := hRD.upTo hr2
    have hLn : Ln w2 g [97, 100, 100] a ws.length c ws behind 0 false := ⟨hB.1, h.raw.upd hup, Nat.le_refl _, h.cap⟩
    have hargs : (List.map (SV.den ρ2) [.c (.p 0 0)]).toArray = #[.pointer (some ⟨g, 0, none⟩)] := by
      obtain ⟨q0, _⟩ := hRD.rho hr2
      simp [SV.den, SC.den, ptrOf, q0, reOfV]
    rw [hP, hargs]
    refine (store_w (by simp) hLn hn hl hb (hE0.upd hup)).mono ?_
    rintro e w3 ⟨hU3, hm⟩
    cases ho : storeR [97, 100, 100] ws behind with
    | fault f =>
      rw [ho] at hm
      obtain ⟨rfl, hu⟩ := hm
      exact .inr ⟨_, rfl, hRD.fault hQ hr2 rfl rfl hU3 hu (hR.trans ho)⟩
    | got r more used =>
      rw [ho] at hm
      obtain ⟨v, rfl, ⟨cv, rfl, hcv⟩, hu⟩ := hm
      obtain ⟨sa, sn, sc, rfl⟩ := cmdv_sl hcv
      refine .inl ⟨_, rfl, ?_⟩
      have hrep := hRD.rep hr2 hU3 (d := 24) (by decide) (v := .t [.g (rqS (.v (.slice sa sn sc)) r), .c (.b more)]) rfl (rq_wf2 _ _ _ _) (s := [(2, .c (.p 1 0)), (3, .c (.p 2 0))]) (fun e x he => by
        simp only [qy] at he
        split at he
        · rename_i e'; subst e'; cases he; exact ⟨rfl, .inl rfl⟩
        · split at he
          · rename_i e'; subst e'; cases he; exact ⟨rfl, .inr rfl⟩
          · cases he)
      obtain ⟨C2, hC2⟩ : ∃ C2, C2 = cx2 D g1 g2 w3 ρ2 := ⟨_, rfl⟩
      rw [← hC2] at hrep
      rw [← KQ_congr (C := D) (D := C2) (by rw [hC2]; rfl) (by rw [hC2]; rfl)]
      have hP2 : C2.P = Tryz.prog := by rw [hC2]; exact hP
      have hk2 : C2.kp = kp40 := by rw [hC2]; exact hk
      refine (?_ : Run C2 _ 29 _ enRd') ρ2 _ w3 hrep
      clear hrep
      have hP := hP2; have hk := hk2
      have hctr := noC_ok hP
      (refine VT_ok hctr (rs := [.tmp 99999]) true 300 _ _ _ ?_; simp (maxSteps := 1000000) only [VT, jf, jg, jZ, ja, jd, je, VC, qA, qB, qC, qD, qE, qF, qG, qH, qI, qJ, qK, qL, qM, qN, qO, qP, qQ, qR, qS, qT, qU, qV, qW, qX, qY, qZ, qe, qf, qg, qh, qj, qk, ql, qm, qn, qo, qp, qq, q0t, qu, qv, ev, qw, qy, qz, zA, zB, zC, zD, zE, zF, zG, zH, zI, zJ, TE.sv, zK, zL, zM, ↓reduceIte, reduceCtorEq, Value.oneCell', Nat.reduceEqDiff, Nat.reduceAdd, Nat.reduceLT, Nat.reduceBEq, Nat.reduceSub, Nat.reduceLeDiff, zP, zQ, zR, zS, zT, zU, zV, zW, zX, zY, zZ, za, zb, zc, zd, ze, zf, zg, zh, zi, zj, zk, zl, zm, zn, zo, zp, zq, zr, zt, zu, zw, zx, zy, zz, cE, jA, jB, hap, killE, deadOf, rwE, cD, cO, jC, jD, jE, jF, jG, jH, jI, jJ, jK, jL, jM, jN, jO, jP, jQ, jR, jS, jT, jU, jV, jW, jX, jY, hP, hk, kp40, noC, lnC, rqS, noCmds, Rq.zero, lb1, lb2, lb3, lb4, u8b, UInt8.reduceToNat, enRd'])
      rw [hC2]
      skip
      exact hRD.ret hQ hr2 hU3 hu hcv (hR.trans ho) (by rfl) (by rfl)
  by_cases h6 : name = [114, 101, 112, 108, 97, 99, 101]
  · subst h6
    (refine VT_ok hctr (rs := [.tmp 99999]) true 300 _ _ _ ?_; simp (maxSteps := 1000000) only [VT, jf, jg, jZ, ja, jd, je, VC, qA, qB, qC, qD, qE, qF, qG, qH, qI, qJ, qK, qL, qM, qN, qO, qP, qQ, qR, qS, qT, qU, qV, qW, qX, qY, qZ, qe, qf, qg, qh, qj, qk, ql, qm, qn, qo, qp, qq, q0t, qu, qv, ev, qw, qy, qz, zA, zB, zC, zD, zE, zF, zG, zH, zI, zJ, TE.sv, zK, zL, zM, ↓reduceIte, reduceCtorEq, Value.oneCell', Nat.reduceEqDiff, Nat.reduceAdd, Nat.reduceLT, Nat.reduceBEq, Nat.reduceSub, Nat.reduceLeDiff, zP, zQ, zR, zS, zT, zU, zV, zW, zX, zY, zZ, za, zb, zc, zd, ze, zf, zg, zh, zi, zj, zk, zl, zm, zn, zo, zp, zq, zr, zt, zu, zw, zx, zy, zz, cE, jA, jB, hap, killE, deadOf, rwE, cD, cO, jC, jD, jE, jF, jG, jH, jI, jJ, jK, jL, jM, jN, jO, jP, jQ, jR, jS, jT, jU, jV, jW, jX, jY, hP, hk, kp40, noC, lnC, rqS, noCmds, Rq.zero, lb1, lb2, lb3, lb4, u8b, UInt8.reduceToNat])
    have hR : o = storeR [114, 101, 112, 108, 97, 99, 101] ws behind := hR.trans (by simp [readR])
    refine Run_ocall rfl rfl (fun args w => by rw [hP]; exact Tryz.call55 args w) (fun ρ2 a2 w2 hr2 hwf => ?_)
    have hB := hRD.blks hr2
    have hup := hRD.upTo hr2
    have hLn : Ln w2 g [114, 101, 112, 108, 97, 99, 101] a ws.length c ws behind 0 false := ⟨hB.1, h.raw.upd hup, Nat.le_refl _, h.cap⟩
    have hargs : (List.map (SV.den ρ2) [.c (.p 0 0)]).toArray = #[.pointer (some ⟨g, 0, none⟩)] := by
      obtain ⟨q0, _⟩ := hRD.rho hr2
      simp [SV.den, SC.den, ptrOf, q0, reOfV]
    rw [hP, hargs]
    refine (store_w (by simp) hLn hn hl hb (hE0.upd hup)).mono ?_
    rintro e w3 ⟨hU3, hm⟩
    cases ho : storeR [114, 101, 112, 108, 97, 99, 101] ws behind with
    | fault f =>
      rw [ho] at hm
      obtain ⟨rfl, hu⟩ := hm
      exact .inr ⟨_, rfl, hRD.fault hQ hr2 rfl rfl hU3 hu (hR.trans ho)⟩
    | got r more used =>
      rw [ho] at hm
      obtain ⟨v, rfl, ⟨cv, rfl, hcv⟩, hu⟩ := hm
      obtain ⟨sa, sn, sc, rfl⟩ := cmdv_sl hcv
      refine .inl ⟨_, rfl, ?_⟩
      have hrep := hRD.rep hr2 hU3 (d := 24) (by decide) (v := .t [.g (rqS (.v (.slice sa sn sc)) r), .c (.b more)]) rfl (rq_wf2 _ _ _ _) (s := [(2, .c (.p 1 0)), (3, .c (.p 2 0))]) (fun e x he => by
        simp only [qy] at he
        split at he
        · rename_i e'; subst e'; cases he; exact ⟨rfl, .inl rfl⟩
        · split at he
          · rename_i e'; subst e'; cases he; exact ⟨rfl, .inr rfl⟩
          · cases he)
      obtain ⟨C2, hC2⟩ : ∃ C2, C2 = cx2 D g1 g2 w3 ρ2 := ⟨_, rfl⟩
      rw [← hC2] at hrep
      rw [← KQ_congr (C := D) (D := C2) (by rw [hC2]; rfl) (by rw [hC2]; rfl)]
      have hP2 : C2.P = Tryz.prog := by rw [hC2]; exact hP
      have hk2 : C2.kp = kp40 := by rw [hC2]; exact hk
      refine (?_ : Run C2 _ 29 _ enRd') ρ2 _ w3 hrep
      clear hrep
      have hP := hP2; have hk := hk2
      have hctr := noC_ok hP
      (refine VT_ok hctr (rs := [.tmp 99999]) true 300 _ _ _ ?_; simp (maxSteps := 1000000) only [VT, jf, jg, jZ, ja, jd, je, VC, qA, qB, qC, qD, qE, qF, qG, qH, qI, qJ, qK, qL, qM, qN, qO, qP, qQ, qR, qS, qT, qU, qV, qW, qX, qY, qZ, qe, qf, qg, qh, qj, qk, ql, qm, qn, qo, qp, qq, q0t, qu, qv, ev, qw, qy, qz, zA, zB, zC, zD, zE, zF, zG, zH, zI, zJ, TE.sv, zK, zL, zM, ↓reduceIte, reduceCtorEq, Value.oneCell', Nat.reduceEqDiff, Nat.reduceAdd, Nat.reduceLT, Nat.reduceBEq, Nat.reduceSub, Nat.reduceLeDiff, zP, zQ, zR, zS, zT, zU, zV, zW, zX, zY, zZ, za, zb, zc, zd, ze, zf, zg, zh, zi, zj, zk, zl, zm, zn, zo, zp, zq, zr, zt, zu, zw, zx, zy, zz, cE, jA, jB, hap, killE, deadOf, rwE, cD, cO, jC, jD, jE, jF, jG, jH, jI, jJ, jK, jL, jM, jN, jO, jP, jQ, jR, jS, jT, jU, jV, jW, jX, jY, hP, hk, kp40, noC, lnC, rqS, noCmds, Rq.zero, lb1, lb2, lb3, lb4, u8b, UInt8.reduceToNat, enRd'])
      rw [hC2]
      skip
      exact hRD.ret hQ hr2 hU3 hu hcv (hR.trans ho) (by rfl) (by rfl)
  by_cases h7 : name = [97, 112, 112, 101, 110, 100]
  · subst h7
    (refine VT_ok hctr (rs := [.tmp 99999]) true 300 _ _ _ ?_; simp (maxSteps := 1000000) only [VT, jf, jg, jZ, ja, jd, je, VC, qA, qB, qC, qD, qE, qF, qG, qH, qI, qJ, qK, qL, qM, qN, qO, qP, qQ, qR, qS, qT, qU, qV, qW, qX, qY, qZ, qe, qf, qg, qh, qj, qk, ql, qm, qn, qo, qp, qq, q0t, qu, qv, ev, qw, qy, qz, zA, zB, zC, zD, zE, zF, zG, zH, zI, zJ, TE.sv, zK, zL, zM, ↓reduceIte, reduceCtorEq, Value.oneCell', Nat.reduceEqDiff, Nat.reduceAdd, Nat.reduceLT, Nat.reduceBEq, Nat.reduceSub, Nat.reduceLeDiff, zP, zQ, zR, zS, zT, zU, zV, zW, zX, zY, zZ, za, zb, zc, zd, ze, zf, zg, zh, zi, zj, zk, zl, zm, zn, zo, zp, zq, zr, zt, zu, zw, zx, zy, zz, cE, jA, jB, hap, killE, deadOf, rwE, cD, cO, jC, jD, jE, jF, jG, jH, jI, jJ, jK, jL, jM, jN, jO, jP, jQ, jR, jS, jT, jU, jV, jW, jX, jY, hP, hk, kp40, noC, lnC, rqS, noCmds, Rq.zero, lb1, lb2, lb3, lb4, u8b, UInt8.reduceToNat])
    have hR : o = storeR [97, 112, 112, 101, 110, 100] ws behind := hR.trans (by simp [readR])
    refine Run_ocall rfl rfl (fun args w => by rw [hP]; exact Tryz.call55 args w) (fun ρ2 a2 w2 hr2 hwf => ?_)
    have hB := hRD.blks hr2
    have hup := hRD.upTo hr2
    have hLn : Ln w2 g [97, 112, 112, 101, 110, 100] a ws.length c ws behind 0 false := ⟨hB.1, h.raw.upd hup, Nat.le_refl _, h.cap⟩
    have hargs : (List.map (SV.den ρ2) [.c (.p 0 0)]).toArray = #[.pointer (some ⟨g, 0, none⟩)] := by
      obtain ⟨q0, _⟩ := hRD.rho hr2
      simp [SV.den, SC.den, ptrOf, q0, reOfV]
    rw [hP, hargs]
    refine (store_w (by simp) hLn hn hl hb (hE0.upd hup)).mono ?_
    rintro e w3 ⟨hU3, hm⟩
    cases ho : storeR [97, 112, 112, 101, 110, 100] ws behind with
    | fault f =>
      rw [ho] at hm
      obtain ⟨rfl, hu⟩ := hm
      exact .inr ⟨_, rfl, hRD.fault hQ hr2 rfl rfl hU3 hu (hR.trans ho)⟩
    | got r more used =>
      rw [ho] at hm
      obtain ⟨v, rfl, ⟨cv, rfl, hcv⟩, hu⟩ := hm
      obtain ⟨sa, sn, sc, rfl⟩ := cmdv_sl hcv
      refine .inl ⟨_, rfl, ?_⟩
      have hrep := hRD.rep hr2 hU3 (d := 24) (by decide) (v := .t [.g (rqS (.v (.slice sa sn sc)) r), .c (.b more)]) rfl (rq_wf2 _ _ _ _) (s := [(2, .c (.p 1 0)), (3, .c (.p 2 0))]) (fun e x he => by
        simp only [qy] at he
        split at he
        · rename_i e'; subst e'; cases he; exact ⟨rfl, .inl rfl⟩
        · split at he
          · rename_i e'; subst e'; cases he; exact ⟨rfl, .inr rfl⟩
          · cases he)
      obtain ⟨C2, hC2⟩ : ∃ C2, C2 = cx2 D g1 g2 w3 ρ2 := ⟨_, rfl⟩
      rw [← hC2] at hrep
      rw [← KQ_congr (C := D) (D := C2) (by rw [hC2]; rfl) (by rw [hC2]; rfl)]
      have hP2 : C2.P = Tryz.prog := by rw [hC2]; exact hP
      have hk2 : C2.kp = kp40 := by rw [hC2]; exact hk
      refine (?_ : Run C2 _ 29 _ enRd') ρ2 _ w3 hrep
      clear hrep
      have hP := hP2; have hk := hk2
      have hctr := noC_ok hP
      (refine VT_ok hctr (rs := [.tmp 99999]) true 300 _ _ _ ?_; simp (maxSteps := 1000000) only [VT, jf, jg, jZ, ja, jd, je, VC, qA, qB, qC, qD, qE, qF, qG, qH, qI, qJ, qK, qL, qM, qN, qO, qP, qQ, qR, qS, qT, qU, qV, qW, qX, qY, qZ, qe, qf, qg, qh, qj, qk, ql, qm, qn, qo, qp, qq, q0t, qu, qv, ev, qw, qy, qz, zA, zB, zC, zD, zE, zF, zG, zH, zI, zJ, TE.sv, zK, zL, zM, ↓reduceIte, reduceCtorEq, Value.oneCell', Nat.reduceEqDiff, Nat.reduceAdd, Nat.reduceLT, Nat.reduceBEq, Nat.reduceSub, Nat.reduceLeDiff, zP, zQ, zR, zS, zT, zU, zV, zW, zX, zY, zZ, za, zb, zc, zd, ze, zf, zg, zh, zi, zj, zk, zl, zm, zn, zo, zp, zq, zr, zt, zu, zw, zx, zy, zz, cE, jA, jB, hap, killE, deadOf, rwE, cD, cO, jC, jD, jE, jF, jG, jH, jI, jJ, jK, jL, jM, jN, jO, jP, jQ, jR, jS, jT, jU, jV, jW, jX, jY, hP, hk, kp40, noC, lnC, rqS, noCmds, Rq.zero, lb1, lb2, lb3, lb4, u8b, UInt8.reduceToNat, enRd'])
      rw [hC2]
      skip
      exact hRD.ret hQ hr2 hU3 hu hcv (hR.trans ho) (by rfl) (by rfl)
  by_cases h8 : name = [112, 114, 101, 112, 101, 110, 100]
  · subst h8
    (refine VT_ok hctr (rs := [.tmp 99999]) true 300 _ _ _ ?_; simp (maxSteps := 1000000) only [VT, jf, jg, jZ, ja, jd, je, VC, qA, qB, qC, qD, qE, qF, qG, qH, qI, qJ, qK, qL, qM, qN, qO, qP, qQ, qR, qS, qT, qU, qV, qW, qX, qY, qZ, qe, qf, qg, qh, qj, qk, ql, qm, qn, qo, qp, qq, q0t, qu, qv, ev, qw, qy, qz, zA, zB, zC, zD, zE, zF, zG, zH, zI, zJ, TE.sv, zK, zL, zM, ↓reduceIte, reduceCtorEq, Value.oneCell', Nat.reduceEqDiff, Nat.reduceAdd, Nat.reduceLT, Nat.reduceBEq, Nat.reduceSub, Nat.reduceLeDiff, zP, zQ, zR, zS, zT, zU, zV, zW, zX, zY, zZ, za, zb, zc, zd, ze, zf, zg, zh, zi, zj, zk, zl, zm, zn, zo, zp, zq, zr, zt, zu, zw, zx, zy, zz, cE, jA, jB, hap, killE, deadOf, rwE, cD, cO, jC, jD, jE, jF, jG, jH, jI, jJ, jK, jL, jM, jN, jO, jP, jQ, jR, jS, jT, jU, jV, jW, jX, jY, hP, hk, kp40, noC, lnC, rqS, noCmds, Rq.zero, lb1, lb2, lb3, lb4, u8b, UInt8.reduceToNat])
    have hR : o = storeR [112, 114, 101, 112, 101, 110, 100] ws behind := hR.trans (by simp [readR])
    refine Run_ocall rfl rfl (fun args w => by rw [hP]; exact Tryz.call55 args w) (fun ρ2 a2 w2 hr2 hwf => ?_)
    have hB := hRD.blks hr2
    have hup := hRD.upTo hr2
    have hLn : Ln w2 g [112, 114, 101, 112, 101, 110, 100] a ws.length c ws behind 0 false := ⟨hB.1, h.raw.upd hup, Nat.le_refl _, h.cap⟩
    have hargs : (List.map (SV.den ρ2) [.c (.p 0 0)]).toArray = #[.pointer (some ⟨g, 0, none⟩)] := by
      obtain ⟨q0, _⟩ := hRD.rho hr2
      simp [SV.den, SC.den, ptrOf, q0, reOfV]
    rw [hP, hargs]
    refine (store_w (by simp) hLn hn hl hb (hE0.upd hup)).mono ?_
    rintro e w3 ⟨hU3, hm⟩
    cases ho : storeR [112, 114, 101, 112, 101, 110, 100] ws behind with
    | fault f =>
      rw [ho] at hm
      obtain ⟨rfl, hu⟩ := hm
      exact .inr ⟨_, rfl, hRD.fault hQ hr2 rfl rfl hU3 hu (hR.trans ho)⟩
    | got r more used =>
      rw [ho] at hm
      obtain ⟨v, rfl, ⟨cv, rfl, hcv⟩, hu⟩ := hm
      obtain ⟨sa, sn, sc, rfl⟩ := cmdv_sl hcv
      refine .inl ⟨_, rfl, ?_⟩
      have hrep := hRD.rep hr2 hU3 (d := 24) (by decide) (v := .t [.g (rqS (.v (.slice sa sn sc)) r), .c (.b more)]) rfl (rq_wf2 _ _ _ _) (s := [(2, .c (.p 1 0)), (3, .c (.p 2 0))]) (fun e x he => by
        simp only [qy] at he
        split at he
        · rename_i e'; subst e'; cases he; exact ⟨rfl, .inl rfl⟩
        · split at he
          · rename_i e'; subst e'; cases he; exact ⟨rfl, .inr rfl⟩
          · cases he)
      obtain ⟨C2, hC2⟩ : ∃ C2, C2 = cx2 D g1 g2 w3 ρ2 := ⟨_, rfl⟩
      rw [← hC2] at hrep
      rw [← KQ_congr (C := D) (D := C2) (by rw [hC2]; rfl) (by rw [hC2]; rfl)]
      have hP2 : C2.P = Tryz.prog := by rw [hC2]; exact hP
      have hk2 : C2.kp = kp40 := by rw [hC2]; exact hk
      refine (?_ : Run C2 _ 29 _ enRd') ρ2 _ w3 hrep
      clear hrep
      have hP := hP2; have hk := hk2
      have hctr := noC_ok hP
      (refine VT_ok hctr (rs := [.tmp 99999]) true 300 _ _ _ ?_; simp (maxSteps := 1000000) only [VT, jf, jg, jZ, ja, jd, je, VC, qA, qB, qC, qD, qE, qF, qG, qH, qI, qJ, qK, qL, qM, qN, qO, qP, qQ, qR, qS, qT, qU, qV, qW, qX, qY, qZ, qe, qf, qg, qh, qj, qk, ql, qm, qn, qo, qp, qq, q0t, qu, qv, ev, qw, qy, qz, zA, zB, zC, zD, zE, zF, zG, zH, zI, zJ, TE.sv, zK, zL, zM, ↓reduceIte, reduceCtorEq, Value.oneCell', Nat.reduceEqDiff, Nat.reduceAdd, Nat.reduceLT, Nat.reduceBEq, Nat.reduceSub, Nat.reduceLeDiff, zP, zQ, zR, zS, zT, zU, zV, zW, zX, zY, zZ, za, zb, zc, zd, ze, zf, zg, zh, zi, zj, zk, zl, zm, zn, zo, zp, zq, zr, zt, zu, zw, zx, zy, zz, cE, jA, jB, hap, killE, deadOf, rwE, cD, cO, jC, jD, jE, jF, jG, jH, jI, jJ, jK, jL, jM, jN, jO, jP, jQ, jR, jS, jT, jU, jV, jW, jX, jY, hP, hk, kp40, noC, lnC, rqS, noCmds, Rq.zero, lb1, lb2, lb3, lb4, u8b, UInt8.reduceToNat, enRd'])
      rw [hC2]
      skip
      exact hRD.ret hQ hr2 hU3 hu hcv (hR.trans ho) (by rfl) (by rfl)
  by_cases h9 : name = [99, 97, 115]
  · subst h9
    (refine VT_ok hctr (rs := [.tmp 99999]) true 300 _ _ _ ?_; simp (maxSteps := 1000000) only [VT, jf, jg, jZ, ja, jd, je, VC, qA, qB, qC, qD, qE, qF, qG, qH, qI, qJ, qK, qL, qM, qN, qO, qP, qQ, qR, qS, qT, qU, qV, qW, qX, qY, qZ, qe, qf, qg, qh, qj, qk, ql, qm, qn, qo, qp, qq, q0t, qu, qv, ev, qw, qy, qz, zA, zB, zC, zD, zE, zF, zG, zH, zI, zJ, TE.sv, zK, zL, zM, ↓reduceIte, reduceCtorEq, Value.oneCell', Nat.reduceEqDiff, Nat.reduceAdd, Nat.reduceLT, Nat.reduceBEq, Nat.reduceSub, Nat.reduceLeDiff, zP, zQ, zR, zS, zT, zU, zV, zW, zX, zY, zZ, za, zb, zc, zd, ze, zf, zg, zh, zi, zj, zk, zl, zm, zn, zo, zp, zq, zr, zt, zu, zw, zx, zy, zz, cE, jA, jB, hap, killE, deadOf, rwE, cD, cO, jC, jD, jE, jF, jG, jH, jI, jJ, jK, jL, jM, jN, jO, jP, jQ, jR, jS, jT, jU, jV, jW, jX, jY, hP, hk, kp40, noC, lnC, rqS, noCmds, Rq.zero, lb1, lb2, lb3, lb4, u8b, UInt8.reduceToNat])
    have hR : o = storeR [99, 97, 115] ws behind := hR.trans (by simp [readR])
    refine Run_ocall rfl rfl (fun args w => by rw [hP]; exact Tryz.call55 args w) (fun ρ2 a2 w2 hr2 hwf => ?_)
    have hB := hRD.blks hr2
    have hup := hRD.upTo hr2
    have hLn : Ln w2 g [99, 97, 115] a ws.length c ws behind 0 false := ⟨hB.1, h.raw.upd hup, Nat.le_refl _, h.cap⟩
    have hargs : (List.map (SV.den ρ2) [.c (.p 0 0)]).toArray = #[.pointer (some ⟨g, 0, none⟩)] := by
      obtain ⟨q0, _⟩ := hRD.rho hr2
      simp [SV.den, SC.den, ptrOf, q0, reOfV]
    rw [hP, hargs]
    refine (store_w (by simp) hLn hn hl hb (hE0.upd hup)).mono ?_
    rintro e w3 ⟨hU3, hm⟩
    cases ho : storeR [99, 97, 115] ws behind with
    | fault f =>
      rw [ho] at hm
      obtain ⟨rfl, hu⟩ := hm
      exact .inr ⟨_, rfl, hRD.fault hQ hr2 rfl rfl hU3 hu (hR.trans ho)⟩
    | got r more used =>
      rw [ho] at hm
      obtain ⟨v, rfl, ⟨cv, rfl, hcv⟩, hu⟩ := hm
      obtain ⟨sa, sn, sc, rfl⟩ := cmdv_sl hcv
      refine .inl ⟨_, rfl, ?_⟩
      have hrep := hRD.rep hr2 hU3 (d := 24) (by decide) (v := .t [.g (rqS (.v (.slice sa sn sc)) r), .c (.b more)]) rfl (rq_wf2 _ _ _ _) (s := [(2, .c (.p 1 0)), (3, .c (.p 2 0))]) (fun e x he => by
        simp only [qy] at he
        split at he
        · rename_i e'; subst e'; cases he; exact ⟨rfl, .inl rfl⟩
        · split at he
          · rename_i e'; subst e'; cases he; exact ⟨rfl, .inr rfl⟩
          · cases he)
      obtain ⟨C2, hC2⟩ : ∃ C2, C2 = cx2 D g1 g2 w3 ρ2 := ⟨_, rfl⟩
      rw [← hC2] at hrep
      rw [← KQ_congr (C := D) (D := C2) (by rw [hC2]; rfl) (by rw [hC2]; rfl)]
      have hP2 : C2.P = Tryz.prog := by rw [hC2]; exact hP
      have hk2 : C2.kp = kp40 := by rw [hC2]; exact hk
      refine (?_ : Run C2 _ 29 _ enRd') ρ2 _ w3 hrep
      clear hrep
      have hP := hP2; have hk := hk2
      have hctr := noC_ok hP
      (refine VT_ok hctr (rs := [.tmp 99999]) true 300 _ _ _ ?_; simp (maxSteps := 1000000) only [VT, jf, jg, jZ, ja, jd, je, VC, qA, qB, qC, qD, qE, qF, qG, qH, qI, qJ, qK, qL, qM, qN, qO, qP, qQ, qR, qS, qT, qU, qV, qW, qX, qY, qZ, qe, qf, qg, qh, qj, qk, ql, qm, qn, qo, qp, qq, q0t, qu, qv, ev, qw, qy, qz, zA, zB, zC, zD, zE, zF, zG, zH, zI, zJ, TE.sv, zK, zL, zM, ↓reduceIte, reduceCtorEq, Value.oneCell', Nat.reduceEqDiff, Nat.reduceAdd, Nat.reduceLT, Nat.reduceBEq, Nat.reduceSub, Nat.reduceLeDiff, zP, zQ, zR, zS, zT, zU, zV, zW, zX, zY, zZ, za, zb, zc, zd, ze, zf, zg, zh, zi, zj, zk, zl, zm, zn, zo, zp, zq, zr, zt, zu, zw, zx, zy, zz, cE, jA, jB, hap, killE, deadOf, rwE, cD, cO, jC, jD, jE, jF, jG, jH, jI, jJ, jK, jL, jM, jN, jO, jP, jQ, jR, jS, jT, jU, jV, jW, jX, jY, hP, hk, kp40, noC, lnC, rqS, noCmds, Rq.zero, lb1, lb2, lb3, lb4, u8b, UInt8.reduceToNat, enRd'])
      rw [hC2]
      skip
      exact hRD.ret hQ hr2 hU3 hu hcv (hR.trans ho) (by rfl) (by rfl)
  have b0 : (name == [103, 101, 116]) = false := by simpa using h0
  have b1 : (name == [103, 101, 116, 115]) = false := by simpa using h1
  have b2 : (name == [103, 97, 116]) = false := by simpa using h2
  have b3 : (name == [103, 97, 116, 115]) = false := by simpa using h3
  have b4 : (name == [115, 101, 116]) = false := by simpa using h4
  have b5 : (name == [97, 100, 100]) = false := by simpa using h5
  have b6 : (name == [114, 101, 112, 108, 97, 99, 101]) = false := by simpa using h6
  have b7 : (name == [97, 112, 112, 101, 110, 100]) = false := by simpa using h7
  have b8 : (name == [112, 114, 101, 112, 101, 110, 100]) = false := by simpa using h8
  have b9 : (name == [99, 97, 115]) = false := by simpa using h9
  (refine VT_ok hctr (rs := [.tmp 99999]) true 300 _ _ _ ?_; simp (maxSteps := 1000000) only [VT, jf, jg, jZ, ja, jd, je, VC, qA, qB, qC, qD, qE, qF, qG, qH, qI, qJ, qK, qL, qM, qN, qO, qP, qQ, qR, qS, qT, qU, qV, qW, qX, qY, qZ, qe, qf, qg, qh, qj, qk, ql, qm, qn, qo, qp, qq, q0t, qu, qv, ev, qw, qy, qz, zA, zB, zC, zD, zE, zF, zG, zH, zI, zJ, TE.sv, zK, zL, zM, ↓reduceIte, reduceCtorEq, Value.oneCell', Nat.reduceEqDiff, Nat.reduceAdd, Nat.reduceLT, Nat.reduceBEq, Nat.reduceSub, Nat.reduceLeDiff, zP, zQ, zR, zS, zT, zU, zV, zW, zX, zY, zZ, za, zb, zc, zd, ze, zf, zg, zh, zi, zj, zk, zl, zm, zn, zo, zp, zq, zr, zt, zu, zw, zx, zy, zz, cE, jA, jB, hap, killE, deadOf, rwE, cD, cO, jC, jD, jE, jF, jG, jH, jI, jJ, jK, jL, jM, jN, jO, jP, jQ, jR, jS, jT, jU, jV, jW, jX, jY, hP, hk, kp40, noC, lnC, rqS, noCmds, Rq.zero, lb1, lb2, lb3, lb4, u8b, UInt8.reduceToNat, b0, b1, b2, b3, b4, b5, b6, b7, b8, b9])
  have hR : o = plainR name ws := hR.trans (by simp [readR, h0, h1, h2, h3, h4, h5, h6, h7, h8, h9])
  refine Run_ocall rfl rfl (fun args w => by rw [hP]; exact Tryz.call56 args w) (fun ρ2 a2 w2 hr2 hwf => ?_)
  have hB := hRD.blks hr2
  have hup := hRD.upTo hr2
  have hLn : Ln w2 g name a ws.length c ws behind 0 false := ⟨hB.1, h.raw.upd hup, Nat.le_refl _, h.cap⟩
  have hargs : (List.map (SV.den ρ2) [.c (.p 0 0)]).toArray = #[.pointer (some ⟨g, 0, none⟩)] := by
    obtain ⟨q0, _⟩ := hRD.rho hr2
    simp [SV.den, SC.den, ptrOf, q0, reOfV]
  rw [hP, hargs]
  refine (plain_w hLn hn hl (hE0.upd hup)).mono ?_
  rintro e w3 ⟨hU3, hm⟩
  cases ho : plainR name ws with
  | fault f =>
    rw [ho] at hm
    obtain ⟨rfl, hu⟩ := hm
    exact .inr ⟨_, rfl, hRD.fault hQ hr2 rfl rfl hU3 hu (hR.trans ho)⟩
  | got r more used =>
    rw [ho] at hm
    obtain ⟨v, rfl, ⟨cv, rfl, hcv⟩, hu⟩ := hm
    obtain ⟨sa, sn, sc, rfl⟩ := cmdv_sl hcv
    refine .inl ⟨_, rfl, ?_⟩
    have hrep := hRD.rep hr2 hU3 (d := 28) (by decide) (v := .g (rqS (.v (.slice sa sn sc)) r)) rfl (rq_wf _ _ _) (s := [(2, .c (.p 1 0)), (3, .c (.p 2 0))]) (fun e x he => by
      simp only [qy] at he
      split at he
      · rename_i e'; subst e'; cases he; exact ⟨rfl, .inl rfl⟩
      · split at he
        · rename_i e'; subst e'; cases he; exact ⟨rfl, .inr rfl⟩
        · cases he)
    obtain ⟨C2, hC2⟩ : ∃ C2, C2 = cx2 D g1 g2 w3 ρ2 := ⟨_, rfl⟩
    rw [← hC2] at hrep
    rw [← KQ_congr (C := D) (D := C2) (by rw [hC2]; rfl) (by rw [hC2]; rfl)]
    have hP2 : C2.P = Tryz.prog := by rw [hC2]; exact hP
    have hk2 : C2.kp = kp40 := by rw [hC2]; exact hk
    refine (?_ : Run C2 _ 29 _ enRd') ρ2 _ w3 hrep
    clear hrep
    have hP := hP2; have hk := hk2
    have hctr := noC_ok hP
    (refine VT_ok hctr (rs := [.tmp 99999]) true 300 _ _ _ ?_; simp (maxSteps := 1000000) only [VT, jf, jg, jZ, ja, jd, je, VC, qA, qB, qC, qD, qE, qF, qG, qH, qI, qJ, qK, qL, qM, qN, qO, qP, qQ, qR, qS, qT, qU, qV, qW, qX, qY, qZ, qe, qf, qg, qh, qj, qk, ql, qm, qn, qo, qp, qq, q0t, qu, qv, ev, qw, qy, qz, zA, zB, zC, zD, zE, zF, zG, zH, zI, zJ, TE.sv, zK, zL, zM, ↓reduceIte, reduceCtorEq, Value.oneCell', Nat.reduceEqDiff, Nat.reduceAdd, Nat.reduceLT, Nat.reduceBEq, Nat.reduceSub, Nat.reduceLeDiff, zP, zQ, zR, zS, zT, zU, zV, zW, zX, zY, zZ, za, zb, zc, zd, ze, zf, zg, zh, zi, zj, zk, zl, zm, zn, zo, zp, zq, zr, zt, zu, zw, zx, zy, zz, cE, jA, jB, hap, killE, deadOf, rwE, cD, cO, jC, jD, jE, jF, jG, jH, jI, jJ, jK, jL, jM, jN, jO, jP, jQ, jR, jS, jT, jU, jV, jW, jX, jY, hP, hk, kp40, noC, lnC, rqS, noCmds, Rq.zero, lb1, lb2, lb3, lb4, u8b, UInt8.reduceToNat, enRd'])
    rw [hC2]
    have hmo := plain_more ho
    subst hmo
    exact hRD.ret hQ hr2 hU3 hu hcv (hR.trans ho) (by rfl) (by rfl)
end Go.Proofs.YtehfcboiimdkbaaGreatDoor
