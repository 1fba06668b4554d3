/- strings.Builder: WriteString, walked; as a call of a walk. -/
import Derived.Test.YtlbbldcfkalhlaaGreatDoorCTbld
namespace Go.Proofs.YtlbbldcfkalhlaaGreatDoor
set_option linter.unusedSimpArgs false
set_option linter.unusedVariables false
set_option linter.unusedSimpArgs false
set_option linter.unusedVariables false
set_option maxHeartbeats 8000000
open Go.RowKit
set_option maxRecDepth 100000

theorem u8d : ¬ ((5 : Nat) = DEAD) := by decide
theorem infoU8b : (Tryz.prog.info? 5).map (fun i => (i.zero, i.size, i.bytes)) = some (some (.int .u8 0), 1, 1) := by kernel_rfl
def rwB (l : List UInt8) : EN := rwE 5 1 l.length (bytesC l)
/-- a row of bytes in a world -/
def RowB (w : World) (r : RE) (l : List UInt8) : Prop := rowP 1 l.length l.length r ∧ (r.nl = none → w.heap[r.blk]? = some (.cells (r.pre ++ Lib.strCells ⟨l.toArray⟩ ++ r.post).toArray 5 (0, 0)))
theorem ws_w {w : World} {b : Nat} {X : SC} {r : RE} {l s : List UInt8} (hX : X = .v (.pointer none) ∨ X = .p 0 0) (hb : w.heap[b]? = some (.cells #[X.den (fun _ => reOf b), rwOf r l.length] 73 (0, 0))) (hr : RowB w r l) (hne : r.nl = none → r.blk ≠ b) (hnl : r.nl ≠ none → r.blk = w.heap.size) (hl : l.length + s.length ≤ 140737488355328) :
    Calls Tryz.prog 29 #[.pointer (some ⟨b, 0, none⟩), .string ⟨s.toArray⟩] w fun e w' => e = .returned (.tuple #[.int .i64 (s.length : Int), .nilIface]) ∧ Upd (fun k => k = b ∨ k = r.blk) w w' ∧
      ∃ r', RowB w' r' (l ++ s) ∧ w'.heap[b]? = some (.cells #[.pointer (some ⟨b, 0, none⟩), rwOf r' (l ++ s).length] 73 (0, 0)) ∧ (r'.nl = none → (r.nl = none ∧ r'.blk = r.blk) ∨ w.heap.size ≤ r'.blk) ∧ (r'.nl = none → r'.blk ≠ b) ∧ (r'.blk = b ∨ r'.blk = r.blk ∨ w.heap.size ≤ r'.blk) := by
  obtain ⟨ρ0, hρ0⟩ : ∃ ρ0 : Nat → RE, ρ0 = fun c => if c = 0 then reOf b else r := ⟨_, rfl⟩
  have zP : ρ0 0 = reOf b := by rw [hρ0]; rfl
  have zQ : ρ0 1 = r := by rw [hρ0]; rfl
  have hXd : X.den ρ0 = X.den (fun _ => reOf b) := by
    rcases hX with rfl | rfl
    · rfl
    · simp [SC.den, ptrOf, zP]
  have hat : At (fun k => k = b ∨ k = r.blk) ρ0 [bldE X (.rw 1 l.length), rwB l] w := by
    have cs : ∀ c, c < 2 → c = 0 ∨ c = 1 := fun c hc => by omega
    refine ⟨?_, ?_, ?_, ?_⟩
    · intro c ty cells mu hc he
      rcases cs c hc with rfl | rfl
      · simp only [bldE, zD, Option.some.injEq, EN.mk.injEq] at he
        obtain ⟨rfl, rfl, rfl⟩ := he
        refine ⟨fun _ => ?_, ?_, fun hd => absurd hd (by decide), fun hn => absurd (by rw [zP]; rfl) hn⟩
        · rw [zP]
          have e2 : dens ρ0 [X, .rw 1 l.length] = [X.den (fun _ => reOf b), rwOf r l.length] := by
            simp only [dens, List.map_cons, List.map_nil, hXd]
            rw [show (SC.rw 1 l.length).den ρ0 = rwOf (ρ0 1) l.length from rfl, zQ]
          rw [e2]; exact hb
        · intro y hy
          simp only [List.mem_cons, List.not_mem_nil, or_false] at hy
          rcases hy with rfl | rfl
          · rcases hX with rfl | rfl
            · trivial
            · exact Nat.zero_lt_two
          · exact Nat.one_lt_two
      · simp only [rwB, rwE, zD, Option.some.injEq, EN.mk.injEq] at he
        obtain ⟨rfl, rfl, rfl⟩ := he
        refine ⟨fun hh => ?_, bytesC_wf _ _, fun hd => absurd (show (5 : Nat) = DEAD from hd) (by decide), fun hn => ?_⟩
        · rw [zQ] at hh ⊢
          rw [bytesC_den]; exact hr.2 hh.2
        · rw [zQ] at hn
          obtain ⟨_, h | h⟩ := hr.1
          · exact absurd h.1 hn
          · have : l = [] := List.eq_nil_of_length_eq_zero h.2.1
            rw [this]; rfl
    · intro c ty cells mu hc he
      rcases cs c hc with rfl | rfl
      · simp only [bldE, zD, Option.some.injEq, EN.mk.injEq] at he
        obtain ⟨rfl, rfl, rfl⟩ := he
        rw [zP]; exact ⟨rfl, rfl, rfl⟩
      · simp only [rwB, rwE, zD, Option.some.injEq, EN.mk.injEq] at he
        obtain ⟨rfl, rfl, rfl⟩ := he
        rw [zQ, bytesC_len]
        refine ⟨?_, hr.1⟩
        obtain ⟨_, h | h⟩ := hr.1
        · show r.pre.length = 0; rw [h.2.1]; rfl
        · show r.pre.length = 0; rw [h.2.2]; rfl
    · intro c d hc hd h1 h2 h3
      have dl : ∀ c, c < 2 → deadE (ρ0 c) (zD [bldE X (.rw 1 l.length), rwB l] c) = false → c = 1 → r.nl = none := fun c _ h e => by
        subst e
        rw [zQ] at h
        exact ((deadE_of (r := r) (en := [bldE X (.rw 1 l.length), rwB l]) (c := 1) rfl).1 h).2
      rcases cs c hc with rfl | rfl <;> rcases cs d hd with rfl | rfl
      · rfl
      · rw [zP, zQ] at h3
        exact absurd h3.symm (hne (dl 1 hd h2 rfl))
      · rw [zP, zQ] at h3
        exact absurd h3 (hne (dl 1 hc h1 rfl))
      · rfl
    · intro c ty cells hc he
      rcases cs c hc with rfl | rfl
      · rw [zP]; exact .inl rfl
      · rw [zQ]; exact .inr rfl
  have hargs : (List.map (SV.den ρ0) [.c (.p 0 0), .c (.s s)]).toArray = #[.pointer (some ⟨b, 0, none⟩), .string ⟨s.toArray⟩] := by
    simp [SV.den, SC.den, ptrOf, zP, reOf]
  rw [← hargs]
  refine calls_of_Run Tryz.func29 rfl kp29 [.c (.p 0 0), .c (.s s)] Tryz.ntmps29 hat (by intro x hx; simp only [List.mem_cons, List.not_mem_nil, or_false] at hx; rcases hx with rfl | rfl; exact Nat.zero_lt_two; trivial) (by simp) ?_
  intro C hC hP hk
  have hctr := noC_ok hP
  have hn0 : C.n0 = 2 := by rw [hC]; rfl
  (refine VT_ok hctr (rs := res29) true 300 _ _ _ ?_; simp (maxSteps := 1000000) only [VT, jf, jg, jZ, ja, jd, je, VC, qA, qB, qC, qD, qE, qF, qG, qH, qI, qJ, qK, qL, qM, qN, qO, qP, qQ, qR, qS, qT, qU, qV, qW, qX, qY, qZ, qe, qf, qg, qh, qj, qk, ql, qm, qn, qo, qp, qq, qt, qu, qv, ev, qw, qy, qz, zA, zB, zC, zD, zE, zF, zG, zH, zI, zJ, TE.sv, zK, zL, zM, ↓reduceIte, reduceCtorEq, Value.oneCell', Nat.reduceEqDiff, Nat.reduceAdd, Nat.reduceLT, Nat.reduceBEq, Nat.reduceSub, Nat.reduceLeDiff, zP, zQ, zR, zS, zT, zU, zV, zW, zX, zY, zZ, za, zb, zc, zd, ze, zf, zg, zh, zi, zj, zk, zl, zm, zn, zo, zp, zq, zr, zt, zu, zw, zx, zy, zz, cE, jA, jB, hap, killE, deadOf, rwE, cD, cO, jC, jD, jE, jF, jG, jH, jI, jJ, jK, jL, jM, jN, jO, jP, jQ, jR, jS, jT, jU, jV, jW, jX, jY, hP, hk, res29, kp29, noC, bldE, rwB, rwE, cond_true, cond_false])
  refine Run_hcall rfl (.t []) [bldE (.p 0 0) (.rw 1 l.length), rwB l] (cc_h (c := 0) (X := X) (Y := .rw 1 l.length) hP (fun q hq => by simp only [zG] at hq; omega) rfl hX) (by simp [zG]) (by simp) ?_
  (refine VT_ok hctr (rs := res29) true 300 _ _ _ ?_; simp (maxSteps := 1000000) only [VT, jf, jg, jZ, ja, jd, je, VC, qA, qB, qC, qD, qE, qF, qG, qH, qI, qJ, qK, qL, qM, qN, qO, qP, qQ, qR, qS, qT, qU, qV, qW, qX, qY, qZ, qe, qf, qg, qh, qj, qk, ql, qm, qn, qo, qp, qq, qt, qu, qv, ev, qw, qy, qz, zA, zB, zC, zD, zE, zF, zG, zH, zI, zJ, TE.sv, zK, zL, zM, ↓reduceIte, reduceCtorEq, Value.oneCell', Nat.reduceEqDiff, Nat.reduceAdd, Nat.reduceLT, Nat.reduceBEq, Nat.reduceSub, Nat.reduceLeDiff, zP, zQ, zR, zS, zT, zU, zV, zW, zX, zY, zZ, za, zb, zc, zd, ze, zf, zg, zh, zi, zj, zk, zl, zm, zn, zo, zp, zq, zr, zt, zu, zw, zx, zy, zz, cE, jA, jB, hap, killE, deadOf, rwE, cD, cO, jC, jD, jE, jF, jG, jH, jI, jJ, jK, jL, jM, jN, jO, jP, jQ, jR, jS, jT, jU, jV, jW, jX, jY, hP, hk, res29, kp29, noC, bldE, rwB, rwE, cond_true, cond_false])
  obtain ⟨i0, hi', hz0, hz1, hz2⟩ := info_parts infoU8b
  refine append_str_op (d := 1) (n := l.length) (cells := bytesC l) (s := s) (e := 5) (by rw [hP]; exact Tryz.underlying31) (by rw [hP]; exact Tryz.underlying9) (by rw [hP]; exact hi') hz0 hz1 hz2 (by show ¬ (5 : Nat) = DEAD; decide) rfl rfl rfl hl (by rw [hn0]; simp) rfl (by simp) ?_
  rw [bytesC_app]
  (refine VT_ok hctr (rs := res29) true 300 _ _ _ ?_; simp (maxSteps := 1000000) only [VT, jf, jg, jZ, ja, jd, je, VC, qA, qB, qC, qD, qE, qF, qG, qH, qI, qJ, qK, qL, qM, qN, qO, qP, qQ, qR, qS, qT, qU, qV, qW, qX, qY, qZ, qe, qf, qg, qh, qj, qk, ql, qm, qn, qo, qp, qq, qt, qu, qv, ev, qw, qy, qz, zA, zB, zC, zD, zE, zF, zG, zH, zI, zJ, TE.sv, zK, zL, zM, ↓reduceIte, reduceCtorEq, Value.oneCell', Nat.reduceEqDiff, Nat.reduceAdd, Nat.reduceLT, Nat.reduceBEq, Nat.reduceSub, Nat.reduceLeDiff, zP, zQ, zR, zS, zT, zU, zV, zW, zX, zY, zZ, za, zb, zc, zd, ze, zf, zg, zh, zi, zj, zk, zl, zm, zn, zo, zp, zq, zr, zt, zu, zw, zx, zy, zz, cE, jA, jB, hap, killE, deadOf, rwE, cD, cO, jC, jD, jE, jF, jG, jH, jI, jJ, jK, jL, jM, jN, jO, jP, jQ, jR, jS, jT, jU, jV, jW, jX, jY, hP, hk, res29, kp29, noC, bldE, rwB, rwE, cond_true, cond_false, killE, deadOf])
  refine Fin_cx hC hres29 fun ρ w' hw hn _ => ?_
  have q0 : ρ 0 = reOf b := by rw [hw.ini 0 (by rw [hn0]; omega), hC]; exact zP
  have k0 := (hw.hp 0 _ _ _ (by simp) rfl).heap ⟨by decide, by rw [q0]; rfl⟩
  have o2 := hw.ho 2 _ _ _ (by simp) rfl
  have m0 := hw.mu 0 _ _ (by simp) rfl
  have m2 := hw.mu 2 _ _ (by simp) rfl
  have hup := hw.up
  rw [hC] at hup m2
  have h2 : rowP 1 (l ++ s).length (l ++ s).length (ρ 2) := by
    have := o2.2
    rw [bytesC_len] at this
    rw [show (l ++ s).length = l.length + s.length by simp] at this ⊢
    exact this
  have hl2 : (l ++ s).length = l.length + s.length := by simp
  refine ⟨rfl, hup, ρ 2, ⟨h2, fun hnl2 => ?_⟩, ?_, fun hnl2 => ?_, fun hnl2 hbb => ?_, ?_⟩
  · have := (hw.hp 2 _ _ _ (by simp) rfl).heap ⟨u8d, hnl2⟩
    rwa [bytesC_den] at this
  · rw [q0] at k0
    rw [hl2]
    simpa [reOf, dens, SC.den, ptrOf, q0] using k0
  · rcases m2 with h | h
    · rcases h with h | h
      · have hj := hw.inj 2 0 (by simp) (by simp) ((deadE_of (r := ρ 2) (c := 2) rfl).2 ⟨u8d, hnl2⟩) ((deadE_of (r := ρ 0) (c := 0) rfl).2 ⟨by decide, by rw [q0]; rfl⟩) (by rw [q0]; exact h)
        cases hj
      · cases hrn : r.nl with
        | none => exact .inl ⟨rfl, h⟩
        | some p => exact .inr (by rw [h, hnl (by rw [hrn]; simp)]; exact Nat.le_refl _)
    · exact .inr h
  · have hj := hw.inj 2 0 (by simp) (by simp) ((deadE_of (r := ρ 2) (c := 2) rfl).2 ⟨u8d, hnl2⟩) ((deadE_of (r := ρ 0) (c := 0) rfl).2 ⟨by decide, by rw [q0]; rfl⟩) (by rw [q0]; exact hbb)
    cases hj
  · rcases m2 with (h | h) | h
    · exact .inl h
    · exact .inr (.inl h)
    · exact .inr (.inr h)
/-- WriteString as a call of a walk -/
theorem ws_h {C : Cx} {nE c d N : Nat} {mk : Nat → Prop} {en en' : List EN} {X : SC} {l s : List UInt8} (hP : C.P = Tryz.prog) (hX : X = .v (.pointer none) ∨ X = .p c 0) (hc : zD en c = some (bldE X (.rw d l.length))) (hd : zD en d = some (rwB l)) (hl : l.length + s.length ≤ 140737488355328) (hn0 : C.n0 ≤ N)
    (hmk : ∀ q, mk q ↔ q = N) (hNe : zD en' N = some (rwB (l ++ s))) (hce : zD en' c = some (bldE (.p c 0) (.rw N (l ++ s).length))) (hde : zD en' d = some (deadOf (rwB l))) (hq : ∀ q, q ≠ N → q ≠ c → q ≠ d → zD en' q = zD en q) :
    HCall C nE mk en en' 29 [.c (.p c 0), .c (.s s)] (.t [.c (.i .i64 (s.length : Int)), .c (.v .nilIface)]) := by
  refine ⟨fun args w => by rw [hP]; exact Tryz.call29 args w, ?_⟩
  intro ρ pr w hpr hmn hw hex hx
  have hcp : pr c := hx (.c (.p c 0)) (by simp)
  have hdp : pr d := (hw.hp c _ _ _ hcp hc).wf (.rw d l.length) (by simp)
  have lN : ¬ pr N := hmn N ((hmk N).2 rfl)
  obtain ⟨k1, k2, k3, k4, k5⟩ := ent_blk hw.hp hw.ho hcp hc (by decide) (by simp)
  have e0 : (List.map (SV.den ρ) [.c (.p c 0), .c (.s s)]).toArray = #[.pointer (some ⟨(ρ c).blk, 0, none⟩), .string ⟨s.toArray⟩] := by
    show #[ptrOf ρ c 0, .string ⟨s.toArray⟩] = _
    rw [k2]
  rw [e0, hP]
  have od := hw.ho d _ _ _ hdp hd
  obtain ⟨r0, hr0, hr1, hr2, hr3⟩ : ∃ r0 : RE, (∀ n, rwOf r0 n = rwOf (ρ d) n) ∧ r0.nl = (ρ d).nl ∧ (r0.nl = none → r0 = ρ d) ∧ (r0.nl ≠ none → r0.blk = w.heap.size ∧ r0.pre = (ρ d).pre ∧ r0.post = (ρ d).post ∧ r0.cap = (ρ d).cap) := by
    cases h : (ρ d).nl with
    | none => exact ⟨ρ d, fun _ => rfl, h, fun _ => rfl, fun hh => absurd h hh⟩
    | some p => exact ⟨⟨w.heap.size, (ρ d).pre, (ρ d).post, (ρ d).cap, some p⟩, fun n => by unfold rwOf; simp only [h], rfl, (fun hh => by cases hh), fun _ => ⟨rfl, rfl, rfl, rfl⟩⟩
  have hrow : RowB w r0 l := by
    cases h : r0.nl with
    | none =>
      rw [hr2 h]
      refine ⟨by have := od.2; rwa [bytesC_len] at this, fun hn => ?_⟩
      have := (hw.hp d _ _ _ hdp hd).heap ⟨u8d, hn⟩
      rwa [bytesC_den] at this
    | some p =>
      obtain ⟨g1, g2, g3, g4⟩ := hr3 (by rw [h]; simp)
      refine ⟨?_, fun hn => by rw [h] at hn; cases hn⟩
      have := od.2
      rw [bytesC_len] at this
      obtain ⟨t1, t2⟩ := this
      refine ⟨t1, ?_⟩
      rw [hr1, g2, g3, g4]; exact t2
  have hcd : c ≠ d := fun h => by
    subst h; rw [hc] at hd
    have := congrArg (Option.map fun e : EN => e.ty.1) hd
    simp [bldE, rwB, rwE] at this
  have live_c : deadE (ρ c) (zD en c) = false := (deadE_of hc).2 ⟨by decide, k5⟩
  have live_d : r0.nl = none → deadE (ρ d) (zD en d) = false := fun h => (deadE_of hd).2 ⟨u8d, by rw [← hr1]; exact h⟩
  have hXd : X.den (fun _ => reOf (ρ c).blk) = X.den ρ ∨ True := .inr trivial
  obtain ⟨X', hX', hXX⟩ : ∃ X' : SC, (X' = .v (.pointer none) ∨ X' = .p 0 0) ∧ X'.den (fun _ => reOf (ρ c).blk) = X.den ρ := by
    rcases hX with rfl | rfl
    · exact ⟨_, .inl rfl, rfl⟩
    · exact ⟨_, .inr rfl, by rw [show (SC.p c 0).den ρ = _ from k2]; rfl⟩
  refine (ws_w (w := w) (b := (ρ c).blk) (X := X') (r := r0) (l := l) (s := s) hX' ?_ hrow (fun h hb => ?_) (fun h => (hr3 h).1) hl).mono ?_
  · rw [hXX, hr0]
    simpa [Blk, dens, SC.den] using k1
  · rw [hr2 h] at hb
    exact hcd (hw.inj d c hdp hcp (live_d h) live_c hb).symm
  rintro e w' ⟨rfl, hU, r', hrow', hb', hbl, hbn, hba⟩
  have hT : ∀ q, pr q → q ≠ c → q ≠ d → deadE (ρ q) (zD en q) = false → ¬ ((ρ q).blk = (ρ c).blk ∨ (ρ q).blk = r0.blk) := by
    intro q hqp hqc hqd hlq h
    rcases h with h | h
    · exact hqc (hw.inj q c hqp hcp hlq live_c h)
    · cases hn : r0.nl with
      | none =>
        rw [hr2 hn] at h
        exact hqd (hw.inj q d hqp hdp hlq (live_d hn) h)
      | some p =>
        have := hw.lt hqp hlq
        rw [h, (hr3 (by rw [hn]; simp)).1] at this
        exact Nat.lt_irrefl _ this
  have hup : updR ρ N r' N = r' := if_pos rfl
  have hoc : updR ρ N r' c = ρ c := if_neg (fun h : c = N => lN (h ▸ hcp))
  obtain ⟨k1', k2'⟩ := Hw.rebuild (C := C) (ρ := ρ) (pr := pr) (en := en) (en' := en') (w := w) (w' := w') (N := N) (e := rwB (l ++ s)) (T := fun k => k = (ρ c).blk ∨ k = r0.blk) r' hw lN hn0 hU
    (fun k hk h => by
      rcases h with rfl | rfl
      · exact (hw.mu c _ _ hcp hc).resolve_right (by omega)
      · cases hn : r0.nl with
        | none => rw [hr2 hn] at hk ⊢; exact (hw.mu d _ _ hdp hd).resolve_right (by omega)
        | some p =>
          rw [(hr3 (by rw [hn]; simp)).1] at hk
          have := hw.up.size
          omega)
    (fun q hqp => by
      have hqN : q ≠ N := fun h => lN (h ▸ hqp)
      by_cases hqc : q = c
      · subst hqc
        refine .inr (.inr ⟨_, _, _, _, hc, hce, by decide, ⟨fun _ => ?_, ?_, fun hd => absurd hd (by decide), fun hn => absurd (by rw [hoc]; exact k5) hn⟩⟩)
        · rw [hoc, k3, k4, hb']
          have e1 : (SC.p q 0).den (updR ρ N r') = .pointer (some ⟨(ρ q).blk, 0, none⟩) := by
            show ptrOf (updR ρ N r') q 0 = _
            simp only [ptrOf, hoc, k3]; rfl
          have e2 : (SC.rw N (l ++ s).length).den (updR ρ N r') = rwOf r' (l ++ s).length := by
            show rwOf (updR ρ N r' N) _ = _
            rw [hup]
          simp only [dens, List.map_cons, List.map_nil, e1, e2, List.nil_append, List.append_nil]
        · intro y hy
          simp only [List.mem_cons, List.not_mem_nil, or_false] at hy
          rcases hy with rfl | rfl
          · exact .inl hcp
          · exact .inr rfl
      · by_cases hqd : q = d
        · subst hqd
          exact .inr (.inl ⟨_, hd, hde⟩)
        · exact .inl ⟨hq q hqN hqc hqd, fun hlq => hT q hqp hqc hqd hlq⟩)
    hNe ⟨fun hl => by
        rw [hup] at hl ⊢
        show w'.heap[r'.blk]? = some (.cells (r'.pre ++ dens (updR ρ N r') (bytesC (l ++ s)) ++ r'.post).toArray _ (0, 0))
        rw [bytesC_den]; exact hrow'.2 hl.2, bytesC_wf _ _, (fun hd => absurd (show (5 : Nat) = DEAD from hd) u8d), (fun hn => by
        rw [hup] at hn
        obtain ⟨_, h | h⟩ := hrow'.1
        · exact absurd h.1 hn
        · have : l ++ s = [] := List.eq_nil_of_length_eq_zero h.2.1
          show bytesC (l ++ s) = []
          rw [this]; rfl)⟩
    ⟨(by
      obtain ⟨_, h | h⟩ := hrow'.1
      · show r'.pre.length = 0; rw [h.2.1]; rfl
      · show r'.pre.length = 0; rw [h.2.2]; rfl), (by
      show rowP 1 (l ++ s).length (bytesC (l ++ s)).length r'
      rw [bytesC_len]; exact hrow'.1)⟩
    (fun hnl q hqp hlq hbq => by
      have hqN : q ≠ N := fun h => lN (h ▸ hqp)
      by_cases hqc : q = c
      · subst hqc; exact hbn hnl hbq.symm
      · by_cases hqd : q = d
        · subst hqd
          rw [hde] at hlq
          simp [deadOf, deadE] at hlq
        · rw [hq q hqN hqc hqd] at hlq
          rcases hbl hnl with ⟨h1, h2⟩ | h1
          · exact hT q hqp hqc hqd hlq (.inr (by rw [hbq, h2]))
          · have := hw.lt hqp hlq
            omega)
    (fun _ => by
      cases hnl : r'.nl with
      | some p =>
        rcases hba with h | h | h
        · rw [h]; exact hw.mu c _ _ hcp hc
        · cases hn : r0.nl with
          | none => rw [h, hr2 hn]; exact hw.mu d _ _ hdp hd
          | some p' => exact .inr (by rw [h, (hr3 (by rw [hn]; simp)).1]; exact hw.up.size)
        · exact .inr (Nat.le_trans hw.up.size h)
      | none =>
        rcases hbl hnl with ⟨h1, h2⟩ | h1
        · rw [h2, hr2 h1]; exact hw.mu d _ _ hdp hd
        · exact .inr (Nat.le_trans hw.up.size h1))
  have hsame : (fun q => pr q ∨ mk q) = fun q => pr q ∨ q = N := funext fun q => propext (or_congr_right (hmk q))
  rw [hsame]
  exact ⟨updR ρ N r', k1', rfl, (by intro y hy; simp only [List.mem_cons, List.not_mem_nil, or_false] at hy; rcases hy with rfl | rfl <;> trivial), k2', fun q hq => by rw [(hmk q).1 hq, hNe]; simp⟩
end Go.Proofs.YtlbbldcfkalhlaaGreatDoor
