/- What every walk by the engine wants: no contracts, no entries, entries that are only read, the end of a function that only reads. No program in sight but its types. -/
import Derived.Test.YtlaagebdbcmckaaGreatDoorBB
import Derived.Test.YtlaagebdbcmckaaGreatDoorCSxLay
import Derived.IntWalk
import Derived.WalkSmall
import Derived.Recover
import Derived.WideLaws
import Derived.Lib.AppendStr
import Derived.Test.YtlaagebdbcmckaaGreatDoorBL
import Derived.Laws.BitsAllLaws
import Derived.Test.YtlaagebdbcmckaaGreatDoorBC
import Derived.Test.YtlaagebdbcmckaaGreatDoorBA
import Derived.LoopTactic
import Derived.WalkSpells
import Derived.Outline
namespace Go.Proofs.YtlaagebdbcmckaaGreatDoor
set_option linter.unusedSimpArgs false
set_option linter.unusedVariables false
open Go.RowKit
theorem u8b (a b : UInt8) : (a == b) = (a.toNat == b.toNat) := by
  rw [Bool.eq_iff_iff, beq_iff_eq, beq_iff_eq]; exact ⟨fun h => h ▸ rfl, fun h => UInt8.toNat_inj.1 h⟩
theorem lb1 (a b : UInt8) (l m : List UInt8) : ((a :: l) == (b :: m)) = ((a == b) && (l == m)) := List.cons_beq_cons
theorem lb2 (a : UInt8) (l : List UInt8) : ((a :: l) == []) = false := rfl
theorem lb3 (a : UInt8) (l : List UInt8) : ([] == (a :: l)) = false := rfl
theorem lb4 : (([] : List UInt8) == []) = true := rfl
def noC : Ctr := fun _ _ _ => none
theorem noC_ok {C : Cx} (_ : C.P = Tryz.prog) : CtrOk C noC := fun _ _ _ _ _ h => by cases h
theorem At.nil (S : Nat → Prop) (ρ : Nat → RE) (w : World) : At S ρ [] w := ⟨fun c _ _ _ hc => absurd hc (by simp), fun c _ _ _ hc => absurd hc (by simp), fun c _ hc => absurd hc (by simp), fun c _ _ hc => absurd hc (by simp)⟩
theorem Fin_ro {C : Cx} {P : Program} {fn : Func} {v v' : SV} {ρ : Nat → RE} {w : World} {n : Nat} {kp : List Nat} {en : List EN} {rs : List ResultVar} (hC : C = zL P fn (fun e w' => e = .returned (v.den ρ) ∧ Below w.heap.size w w') Non w ρ n kp) (hrs : fn.results.toList = rs) (hv : v' = v) (hw : v.wf (· < n)) : Fin C rs v' en := by
  subst hC
  subst hv
  exact Fin_of ctx_of hrs fun ρ' w' h hn _ => ⟨congrArg _ (SV.den_congr hw (fun c hc => h.ini c hc)), h.up.to_below⟩
end Go.Proofs.YtlaagebdbcmckaaGreatDoor
/- A walk that comes to a panic: an operation that panics, a call that does. -/
namespace Go.Proofs.YtlaagebdbcmckaaGreatDoor
set_option linter.unusedSimpArgs false
set_option linter.unusedVariables false
open Go.RowKit
section
variable {C : Cx} {nt : Nat} {sl : List (Nat × SV)} {en : List EN} {k : List KI}
variable {dst : Option Nat} {op : Op} {ty : TypeId} {pos : String} {af : Array Edge} {all r : List Oper} {gd : Option (Nat × Bool)}
theorem Fin_cx {P : Program} {fn : Func} {R : Ending → World → Prop} {S : Nat → Prop} {w0 : World} {ρ0 : Nat → RE} {n0 : Nat} {kp : List Nat} (hC : C = zL P fn R S w0 ρ0 n0 kp) {rs : List ResultVar} (hrs : fn.results.toList = rs) {v : SV}
    (h : ∀ ρ w, Hw C ρ (· < en.length) en w → C.n0 ≤ en.length → v.wf (· < en.length) → R (.returned (v.den ρ)) w) : Fin C rs v en :=
  Fin_of (P := P) (R := R) (by rw [hC]; exact ctx_of) hrs h
theorem Run_loopP {ι : Type} {c : Code} {k : List KI} (slF : ι → List (Nat × SV)) (enF : ι → List EN) (μ : ι → Nat) (x0 : ι) (h0 : sub (slF x0) sl) (he0 : enF x0 = en)
    (round : ∀ (x : ι) (D : Cx), D.P = C.P → D.S = C.S → D.w0 = C.w0 → D.n0 = C.n0 → D.ρ0 = C.ρ0 → D.kp = C.kp → D.df = C.df → (∀ ch a w, C.Q (.panic ch) a w → D.Q (.panic ch) a w) → (∀ a w, C.Q .ret a w → D.Q .ret a w) →
      (∀ {id : Nat} {k' kk : List KI} {s : List (Nat × SV)} {e : List EN}, zH id kk = none → zH id k = some k' → Run C k' nt s e → Run D (.code (.exit id) :: kk) nt s e) →
      (∀ y s, μ y < μ x → sub (slF y) s → Run D [] nt s (enF y)) → Run D [.code c] nt (slF x) (enF x)) : Run C (.code (.loop c) :: k) nt sl en :=
  Run_loop slF enF μ x0 h0 he0 fun x J hJ => round x (lpC C k J) rfl rfl rfl rfl rfl rfl rfl (fun ch a w h => KQ_panic k ch a w h) (fun a w h => KQ_ret k a w h) (fun h1 h2 h3 => Run_lpExit h1 h2 h3) hJ
end
end Go.Proofs.YtlaagebdbcmckaaGreatDoor
/- An entry whose cells were changed by a call; a store at one place of an element of a row. -/
namespace Go.Proofs.YtlaagebdbcmckaaGreatDoor
set_option linter.unusedSimpArgs false
set_option linter.unusedVariables false
open Go.RowKit
theorem Hw.turn {C : Cx} {ρ : Nat → RE} {pr : Nat → Prop} {en : List EN} {w w' : World} {N : Nat} {ty : TypeId × Nat × (RE → Prop)} {cells cells' : List SC} (h : Hw C ρ pr en w) (hpl : ∀ c, pr c → c < en.length) (hN : pr N) (he : zD en N = some ⟨ty, cells, true⟩)
    (hl : ty.1 ≠ DEAD) (hnl : (ρ N).nl = none) (hU : Upd (One (ρ N).blk) w w') (hb : w'.heap[(ρ N).blk]? = some (.cells ((ρ N).pre ++ dens ρ cells' ++ (ρ N).post).toArray ty.1 (0, 0))) (hwf : wfs pr cells') : Hw C ρ pr (zE en N ⟨ty, cells', true⟩) w' := by
  have hlN : deadE (ρ N) (zD en N) = false := (deadE_of he).2 ⟨hl, hnl⟩
  have hNl : zD (zE en N ⟨ty, cells', true⟩) N = some ⟨ty, cells', true⟩ := nth_set he
  have hoth : ∀ q, q ≠ N → zD (zE en N ⟨ty, cells', true⟩) q = zD en q := fun q hq => nth_set_ne hq
  have hdead : ∀ q, deadE (ρ q) (zD (zE en N ⟨ty, cells', true⟩) q) = false → deadE (ρ q) (zD en q) = false := by
    intro q hq
    by_cases e : q = N
    · subst e; exact hlN
    · rw [hoth q e] at hq; exact hq
  refine ⟨?_, ?_, ?_, ?_, ?_, h.ini⟩
  · intro q ty' cs mu hq hx
    by_cases e : q = N
    · subst e
      rw [hNl] at hx
      simp only [Option.some.injEq, EN.mk.injEq] at hx
      obtain ⟨rfl, rfl, rfl⟩ := hx
      exact ⟨fun _ => hb, hwf, fun hd => absurd hd hl, fun hn => absurd hnl hn⟩
    · rw [hoth q e] at hx
      have g := h.hp q ty' cs mu hq hx
      refine ⟨fun hd => ?_, g.wf, g.dead, g.non⟩
      have hlq : deadE (ρ q) (zD en q) = false := (deadE_of hx).2 hd
      rw [hU.block _ (h.lt hq hlq) (fun hb => e (h.inj q N hq hN hlq hlN hb))]
      exact g.heap hd
  · intro q ty' cs mu hq hx
    by_cases e : q = N
    · subst e
      rw [hNl] at hx
      simp only [Option.some.injEq, EN.mk.injEq] at hx
      obtain ⟨rfl, rfl, rfl⟩ := hx
      exact h.ho q _ _ _ hq he
    · rw [hoth q e] at hx
      exact h.ho q _ _ _ hq hx
  · intro c d hc hd h1 h2 h3
    exact h.inj c d hc hd (hdead c h1) (hdead d h2) h3
  · refine h.up.trans hU fun k hk hT => ?_
    rw [show k = (ρ N).blk from hT] at hk ⊢
    exact (h.mu N _ _ hN he).resolve_right (by omega)
  · intro q ty' cs hq hx
    by_cases e : q = N
    · subst e
      exact h.mu q _ _ hq he
    · rw [hoth q e] at hx
      exact h.mu q _ _ hq hx
section
variable {α : Type} {f : α → List SC} {z : Nat}
end
end Go.Proofs.YtlaagebdbcmckaaGreatDoor
/- A call that hands back memory of its own, as a call of a walk: its block becomes an entry. -/
namespace Go.Proofs.YtlaagebdbcmckaaGreatDoor
set_option linter.unusedSimpArgs false
set_option linter.unusedVariables false
open Go.RowKit
def Made (w w' : World) (e : EN) (vals : List Value) (r : RE) : Prop :=
  r.pre.length = e.ty.2.1 ∧ e.ty.2.2 r ∧ (r.nl = none → w.heap.size ≤ r.blk ∧ w'.heap[r.blk]? = some (.cells (r.pre ++ vals ++ r.post).toArray e.ty.1 (0, 0))) ∧ (r.nl ≠ none → e.cells = []) ∧ (r.nl ≠ none → w.heap.size ≤ r.blk)
theorem fresh_h {C : Cx} {nE N : Nat} {mk : Nat → Prop} {en en' : List EN} {f : FuncId} {xs : List SV} {v : SV} {e : EN} {vals : List Value} (hent : ∀ args w, (callFunc f args).run C.P w = .ok (.enter f args) w)
    (hmk : ∀ q, mk q ↔ q = N) (hn0 : C.n0 ≤ N) (hN : zD en' N = some e) (hq : ∀ q, q ≠ N → zD en' q = zD en q) (hl : e.ty.1 ≠ DEAD) (hcells : ∀ ρ, dens ρ e.cells = vals) (hwf : ∀ pr, wfs pr e.cells) (hvw : ∀ pr : Nat → Prop, pr N → v.wf pr)
    (h : ∀ ρ pr w, Hw C ρ pr en w → (∀ c, c < nE → pr c) → (∀ x ∈ xs, x.wf pr) → Calls C.P f (xs.map (SV.den ρ)).toArray w fun z w' => ∃ r, Made w w' e vals r ∧ (∀ ρ' : Nat → RE, (∀ c, pr c → ρ' c = ρ c) → ρ' N = r → z = .returned (v.den ρ')) ∧ Below w.heap.size w w') :
    HCall C nE mk en en' f xs v := by
  refine ⟨hent, ?_⟩
  intro ρ pr w hpr hmn hw hex hx
  refine (h ρ pr w hw hpr hx).mono ?_
  rintro z w' ⟨r, ⟨k1, k2, k3, k4, k6⟩, k5, hb⟩
  have lN : ¬ pr N := hmn _ ((hmk _).2 rfl)
  have hsame : (fun q => pr q ∨ mk q) = fun q => pr q ∨ q = N := funext fun q => propext (or_congr_right (hmk q))
  have hup : updR ρ N r N = r := if_pos rfl
  obtain ⟨g1, g2⟩ := Hw.rebuild (C := C) (ρ := ρ) (pr := pr) (en := en) (en' := en') (w := w) (w' := w') (N := N) (e := e) (T := Non) r hw lN hn0 (Upd.of_below hb) (fun _ _ h => h.elim)
    (fun q hpq => .inl ⟨hq q (fun e => lN (e ▸ hpq)), fun _ h => h⟩) hN
    ⟨fun hh => by rw [hup] at hh ⊢; rw [hcells]; exact (k3 hh.2).2, hwf _, fun hd => absurd hd hl, fun hh => by rw [hup] at hh; exact k4 hh⟩ ⟨k1, k2⟩
    (fun hnl q hpq hd => by
      rw [hq q (fun e => lN (e ▸ hpq))] at hd
      have := hw.lt hpq hd
      have := (k3 hnl).1
      omega)
    (fun _ => .inr (by
      have := hw.up.size
      by_cases hnl : r.nl = none
      · have := (k3 hnl).1; omega
      · have := k6 hnl; omega))
  rw [hsame]
  exact ⟨updR ρ N r, g1, k5 _ g1 hup, hvw _ (.inr rfl), g2, fun q hq' => by rw [(hmk q).1 hq', hN]; exact fun h => nomatch h⟩
theorem mkC_no {nE j : Nat} {crs : List Cr} (h : Cr.h j ∉ crs) (q : Nat) : ¬ mkC nE crs j q := fun ⟨_, h2⟩ => h (List.mem_of_getElem? h2)
theorem soft_h {C : Cx} {nE : Nat} {mk : Nat → Prop} {en : List EN} {f : FuncId} {xs : List SV} {v : SV} (hent : ∀ args w, (callFunc f args).run C.P w = .ok (.enter f args) w) (hmk : ∀ q, ¬ mk q)
    (h : ∀ ρ pr w, Hw C ρ pr en w → (∀ c, c < nE → pr c) → (∀ x ∈ xs, x.wf pr) → v.wf pr ∧ Calls C.P f (xs.map (SV.den ρ)).toArray w fun z w' => z = .returned (v.den ρ) ∧ Below w.heap.size w w') : HCall C nE mk en en f xs v := by
  refine ⟨hent, ?_⟩
  intro ρ pr w hpr hmn hw hex hx
  obtain ⟨hv, hc⟩ := h ρ pr w hw hpr hx
  refine hc.mono ?_
  rintro z w' ⟨rfl, hb⟩
  exact ⟨ρ, fun _ _ => rfl, rfl, SV.wf_mono hv (fun _ h => .inl h), (hw.same hb).iff (fun q => ⟨fun h => h.resolve_right (hmk q), .inl⟩), fun q hq => absurd hq (hmk q)⟩
end Go.Proofs.YtlaagebdbcmckaaGreatDoor
/- A call that hands back two pieces of memory of its own, as a call of a walk. No program in sight. -/
namespace Go.Proofs.YtlaagebdbcmckaaGreatDoor
set_option linter.unusedSimpArgs false
set_option linter.unusedVariables false
open Go.RowKit
theorem Made.mono {w w1 w' : World} {e : EN} {vals : List Value} {r : RE} (h : Made w w' e vals r) (hs : w1.heap.size ≤ w.heap.size) : Made w1 w' e vals r :=
  ⟨h.1, h.2.1, fun hn => ⟨Nat.le_trans hs (h.2.2.1 hn).1, (h.2.2.1 hn).2⟩, h.2.2.2.1, fun hn => Nat.le_trans hs (h.2.2.2.2 hn)⟩
theorem fresh2_h {C : Cx} {nE N M : Nat} {mk : Nat → Prop} {en en' : List EN} {f : FuncId} {xs : List SV} {v : SV} {e1 e2 : EN} {vals1 vals2 : List Value} (hent : ∀ args w, (callFunc f args).run C.P w = .ok (.enter f args) w)
    (hmk : ∀ q, mk q ↔ q = N ∨ q = M) (hNM : N ≠ M) (hn0 : C.n0 ≤ N) (hm0 : C.n0 ≤ M) (hN : zD en' N = some e1) (hM : zD en' M = some e2) (hq : ∀ q, q ≠ N → q ≠ M → zD en' q = zD en q) (hl1 : e1.ty.1 ≠ DEAD) (hl2 : e2.ty.1 ≠ DEAD)
    (hc1 : ∀ ρ, dens ρ e1.cells = vals1) (hc2 : ∀ ρ, dens ρ e2.cells = vals2) (hwf1 : ∀ pr, wfs pr e1.cells) (hwf2 : ∀ pr, wfs pr e2.cells) (hvw : ∀ pr : Nat → Prop, pr N → pr M → v.wf pr)
    (h : ∀ ρ pr w, Hw C ρ pr en w → (∀ c, c < nE → pr c) → (∀ x ∈ xs, x.wf pr) → Calls C.P f (xs.map (SV.den ρ)).toArray w fun z w' => ∃ r1 r2, Made w w' e1 vals1 r1 ∧ Made w w' e2 vals2 r2 ∧ (r1.nl = none → r2.nl = none → r1.blk ≠ r2.blk) ∧ (∀ ρ' : Nat → RE, (∀ c, pr c → ρ' c = ρ c) → ρ' N = r1 → ρ' M = r2 → z = .returned (v.den ρ')) ∧ Below w.heap.size w w') :
    HCall C nE mk en en' f xs v := by
  refine ⟨hent, ?_⟩
  intro ρ pr w hpr hmn hw hex hx
  refine (h ρ pr w hw hpr hx).mono ?_
  rintro z w' ⟨r1, r2, ⟨a1, a2, a3, a4, a6⟩, ⟨b1, b2, b3, b4, b6⟩, hne, k5, hb⟩
  have lN : ¬ pr N := hmn _ ((hmk _).2 (.inl rfl))
  have lM : ¬ pr M := hmn _ ((hmk _).2 (.inr rfl))
  have hup1 : updR ρ N r1 N = r1 := if_pos rfl
  -- the first one: entries as they are, but for N
  obtain ⟨en1, hen1⟩ : ∃ en1, en1 = zE en' M (deadOf e2) := ⟨_, rfl⟩
  have h1N : zD en1 N = some e1 := by rw [hen1, nth_set_ne hNM]; exact hN
  have h1q : ∀ q, q ≠ N → q ≠ M → zD en1 q = zD en q := fun q h1 h2 => by rw [hen1, nth_set_ne h2]; exact hq q h1 h2
  obtain ⟨g1, g2⟩ := Hw.rebuild (C := C) (ρ := ρ) (pr := pr) (en := en) (en' := en1) (w := w) (w' := w') (N := N) (e := e1) (T := Non) r1 hw lN hn0 (Upd.of_below hb) (fun _ _ h => h.elim)
    (fun q hpq => .inl ⟨h1q q (fun e => lN (e ▸ hpq)) (fun e => lM (e ▸ hpq)), fun _ h => h⟩) h1N
    ⟨fun hh => by rw [hup1] at hh ⊢; rw [hc1]; exact (a3 hh.2).2, hwf1 _, fun hd => absurd hd hl1, fun hh => by rw [hup1] at hh; exact a4 hh⟩ ⟨a1, a2⟩
    (fun hnl q hpq hd => by
      rw [h1q q (fun e => lN (e ▸ hpq)) (fun e => lM (e ▸ hpq))] at hd
      have := hw.lt hpq hd
      have := (a3 hnl).1
      omega)
    (fun _ => .inr (by
      have := hw.up.size
      by_cases hnl : r1.nl = none
      · have := (a3 hnl).1; omega
      · have := a6 hnl; omega))
  have lM' : ¬ (pr M ∨ M = N) := fun h => h.elim lM (fun h => hNM h.symm)
  have hup2 : updR (updR ρ N r1) M r2 M = r2 := if_pos rfl
  have hup21 : updR (updR ρ N r1) M r2 N = r1 := by
    rw [show updR (updR ρ N r1) M r2 N = updR ρ N r1 N from if_neg hNM]; exact hup1
  obtain ⟨g3, g4⟩ := Hw.rebuild (C := C) (ρ := updR ρ N r1) (pr := fun q => pr q ∨ q = N) (en := en1) (en' := en') (w := w') (w' := w') (N := M) (e := e2) (T := Non) r2 g2 lM' hm0 (Upd.refl _ _) (fun _ _ h => h.elim)
    (fun q hpq => .inl ⟨by
      have hqM : q ≠ M := fun e => lM' (e ▸ hpq)
      rw [hen1, nth_set_ne hqM], fun _ h => h⟩) hM
    ⟨fun hh => by rw [hup2] at hh ⊢; rw [hc2]; exact (b3 hh.2).2, hwf2 _, fun hd => absurd hd hl2, fun hh => by rw [hup2] at hh; exact b4 hh⟩ ⟨b1, b2⟩
    (fun hnl q hpq hd => by
      have hqM : q ≠ M := fun e => lM' (e ▸ hpq)
      rcases hpq with hpq | rfl
      · have hqN : q ≠ N := fun e => lN (e ▸ hpq)
        rw [show updR ρ N r1 q = ρ q from if_neg hqN] at hd ⊢
        rw [hq q hqN hqM] at hd
        have := hw.lt hpq hd
        have := (b3 hnl).1
        omega
      · rw [hup1] at hd ⊢
        rw [hN] at hd
        exact hne (by
          cases e1 with | mk t c m => cases t with | mk t1 t2 => simp [deadE] at hd; exact hd.2) hnl)
    (fun _ => .inr (by
      have := hw.up.size
      by_cases hnl : r2.nl = none
      · have := (b3 hnl).1; omega
      · have := b6 hnl; omega))
  have hsame : (fun q => (pr q ∨ q = N) ∨ q = M) = fun q => pr q ∨ mk q := funext fun q => propext (by rw [hmk]; exact or_assoc)
  rw [hsame] at g4
  refine ⟨updR (updR ρ N r1) M r2, fun c hc => (g3 c (.inl hc)).trans (g1 c hc), k5 _ (fun c hc => (g3 c (.inl hc)).trans (g1 c hc)) hup21 hup2, hvw _ (.inr ((hmk _).2 (.inl rfl))) (.inr ((hmk _).2 (.inr rfl))), g4, fun q hq' => ?_⟩
  rcases (hmk q).1 hq' with rfl | rfl
  · rw [hN]; exact fun h => nomatch h
  · rw [hM]; exact fun h => nomatch h
end Go.Proofs.YtlaagebdbcmckaaGreatDoor
/- A walk of a function that defers a closure, and of a deferred function that recovers. -/
namespace Go.Proofs.YtlaagebdbcmckaaGreatDoor
set_option linter.unusedSimpArgs false
set_option linter.unusedVariables false
open Go.RowKit
section
variable {P : Program} {C : Cx} {ρ : Nat → RE} {nt : Nat} {sl : List (Nat × SV)} {en : List EN} {a : Act} {w : World} {k : List KI}
variable {dst : Option Nat} {op : Op} {ty : TypeId} {pos : String} {af : Array Edge} {all r : List Oper} {gd : Option (Nat × Bool)}
theorem Run_ocall {f : FuncId} {args : Array Operand} {tys : Array TypeId} {xs : List SV} (hxs : qw sl args.toList = some xs) (hg : gdT all sl gd = true) (hent : ∀ args w, (callFunc f args).run C.P w = .ok (.enter f args) w)
    (hc : ∀ ρ a w, Rep C ρ nt sl en a w → (∀ x ∈ xs, x.wf (· < en.length)) → Calls C.P f (xs.map (SV.den ρ)).toArray w fun e w' => (∃ v, e = .returned v ∧ KQ C (.ops all r :: k) .normal (a.put dst v) w') ∨ ∃ ch, e = .panicked ch ∧ C.Q (.panic ch) a w') :
    Run C (.ops all (⟨dst, .call ⟨.value (.func f), args, tys⟩, ty, pos, af, gd⟩ :: r) :: k) nt sl en := by
  intro ρ a w hr
  obtain ⟨g1, g2⟩ := hr.evs_ok _ _ hxs
  have hargs : args.map a.eval = (xs.map (SV.den ρ)).toArray := by apply Array.toList_inj.1; simpa using g1
  rw [KQ_ops]
  unfold wpList
  rw [if_pos (gd_wanted hr hg)]
  left
  unfold Oper.wp
  have hx' : (execOp a.eval ⟨dst, .call ⟨.value (.func f), args, tys⟩, ty, pos, af, gd⟩).run C.P w = .ok (.enter f (xs.map (SV.den ρ)).toArray) w := by
    simp [execOp, resolve, Act.eval, Deferred.ofValue, invoke, hargs, hent]
  rw [hx']
  simp only [Oper.upon]
  refine (hc ρ a w hr g2).mono ?_
  rintro e w' (⟨v, rfl, h⟩ | ⟨ch, rfl, h⟩)
  · rw [KQ_ops] at h; exact h
  · exact KQ_panic _ _ _ _ h
def enL (l : List (Nat × TypeId × List SC × Bool)) : List EN := l.map fun x => ⟨(x.2.1, 0, whole), x.2.2.1, x.2.2.2⟩
def roL (l : List (Nat × TypeId × List SC × Bool)) : Nat → RE := fun c => ⟨((l[c]?).map (·.1)).getD 0, [], [], 0, none⟩
theorem at_list {S : Nat → Prop} {l : List (Nat × TypeId × List SC × Bool)} (hb : ∀ x ∈ l, Blk w x.1 x.2.1 (dens (roL l) x.2.2.1).toArray ∧ x.2.1 ≠ DEAD ∧ wfs (· < l.length) x.2.2.1 ∧ (x.2.2.2 = true → S x.1)) (hd : ∀ (i j : Nat) x y, l[i]? = some x → l[j]? = some y → x.1 = y.1 → i = j) : At S (roL l) (enL l) w := by
  have hlen : (enL l).length = l.length := by simp [enL]
  have hget : ∀ c ty cells mu, zD (enL l) c = some ⟨ty, cells, mu⟩ → ∃ x, l[c]? = some x ∧ ty = (x.2.1, 0, whole) ∧ cells = x.2.2.1 ∧ mu = x.2.2.2 ∧ roL l c = ⟨x.1, [], [], 0, none⟩ := by
    intro c ty cells mu hc
    rw [nthS_eq] at hc
    simp only [enL, List.getElem?_map, Option.map_eq_some_iff, EN.mk.injEq] at hc
    obtain ⟨x, hx, rfl, rfl, rfl⟩ := hc
    exact ⟨x, hx, rfl, rfl, rfl, by simp [roL, hx]⟩
  refine ⟨?_, ?_, ?_, ?_⟩
  · intro c ty cells mu hc he
    obtain ⟨x, hx, rfl, rfl, rfl, hρ⟩ := hget c ty cells mu he
    obtain ⟨h1, h2, h3, _⟩ := hb x (List.mem_of_getElem? hx)
    refine ⟨fun _ => ?_, by rw [hlen]; exact h3, fun h => absurd h h2, fun h => by rw [hρ] at h; exact absurd rfl h⟩
    rw [hρ]
    simpa [Blk] using h1
  · intro c ty cells mu hc he
    obtain ⟨x, hx, rfl, rfl, rfl, hρ⟩ := hget c ty cells mu he
    rw [hρ]; exact ⟨rfl, rfl, rfl⟩
  · intro c d hc hd' _ _ h3
    rw [hlen] at hc hd'
    refine hd c d _ _ (List.getElem?_eq_getElem hc) (List.getElem?_eq_getElem hd') ?_
    have e1 : (roL l c).blk = l[c].1 := by simp [roL, List.getElem?_eq_getElem hc]
    have e2 : (roL l d).blk = l[d].1 := by simp [roL, List.getElem?_eq_getElem hd']
    rw [← e1, ← e2, h3]
  · intro c ty cells hc he
    obtain ⟨x, hx, rfl, rfl, hm, hρ⟩ := hget c ty cells true he
    rw [hρ]
    exact (hb x (List.mem_of_getElem? hx)).2.2.2 hm.symm
end
end Go.Proofs.YtlaagebdbcmckaaGreatDoor
/- Structs compared: cell by cell, nested structs too. -/
namespace Go.Proofs.YtlaagebdbcmckaaGreatDoor
set_option linter.unusedSimpArgs false
set_option linter.unusedVariables false
open Go.RowKit
def ckB (P : Program) : Nat → Nat → List Field → List SC → List SC → Option (List SC × List SC)
  | 0, _, _, _, _ => none
  | _ + 1, _, [], l, m => some (l, m)
  | n + 1, o, f :: fs, l, m => if f.name = "_" ∨ f.offset ≠ o then none else match P.underlying f.type, l, m with
    | some (.int _), .i k _ :: l, .i k' _ :: m => if k = k' then ckB P n (o + 1) fs l m else none
    | some .string, .s _ :: l, .s _ :: m => ckB P n (o + 1) fs l m
    | some .bool, .b _ :: l, .b _ :: m => ckB P n (o + 1) fs l m
    | some (.struct gs), l, m => if P.stoodInHeld f.type then none else match ckB P n 0 gs.toList l m with
      | some (l', m') => if P.info? f.type |>.any (fun i => i.size + l'.length == l.length && i.size + m'.length == m.length) then ckB P n (o + (l.length - l'.length)) fs l' m' else none
      | none => none
    | _, _, _ => none
theorem eqCs_app : ∀ {a c b d : List SC}, a.length = c.length → qM (a ++ b) (c ++ d) = (qM a c && qM b d)
  | [], [], _, _, _ => by simp [qM]
  | x :: a, y :: c, b, d, h => by
    simp only [List.cons_append, qM, eqCs_app (a := a) (c := c) (by simpa using h), Bool.and_assoc]
  | [], _ :: _, _, _, h => by simp at h
  | _ :: _, [], _, _, h => by simp at h
section
variable {P : Program}
theorem part_cell {t : TypeId} {d : TypeDesc} {xs : Array Value} {o : Nat} {v : Value} (w : World) (ht : P.underlying t = some d) (ha : aggD (some d) = false) (hx : xs[o]? = some v) : (part t xs o).run P w = .ok v w := by
  have := run_isAgg (P := P) (w := w) ht
  rw [ha] at this
  simp [part, this, hx]
theorem part_agg {t : TypeId} {d : TypeDesc} {i : TypeInfo} {xs : Array Value} {o : Nat} (w : World) (ht : P.underlying t = some d) (hi : P.info? t = some i) (ha : aggD (some d) = true) : (part t xs o).run P w = .ok (.agg (xs.extract o (o + i.size))) w := by
  have := run_isAgg (P := P) (w := w) ht
  rw [ha] at this
  simp [part, this, run_sizeOf hi]
theorem bs_list (l : List UInt8) : (ByteArray.mk l.toArray).toList = l := by rw [ByteArray.toList_eq]
theorem fields_eq {ρ : Nat → RE} {w : World} : ∀ (n o : Nat) (fs : List Field) (l m l' m' : List SC), ckB P n o fs l m = some (l', m') →
    ∃ l1 m1, l = l1 ++ l' ∧ m = m1 ++ m' ∧ l1.length = m1.length ∧ ∀ (d : Nat) (xs ys : Array Value), (∀ (i : Nat) x, l1[i]? = some x → xs[o + i]? = some (x.den ρ)) → (∀ (i : Nat) x, m1[i]? = some x → ys[o + i]? = some (x.den ρ)) → (Op.eqFields (d + n) xs ys fs).run P w = .ok (qM l1 m1) w := by
  intro n
  induction n with
  | zero => intro o fs l m l' m' h; simp [ckB] at h
  | succ n ih =>
    intro o fs l m l' m' h
    cases fs with
    | nil =>
      simp only [ckB, Option.some.injEq, Prod.mk.injEq] at h
      obtain ⟨rfl, rfl⟩ := h
      exact ⟨[], [], rfl, rfl, rfl, fun d xs ys _ _ => by simp [Op.eqFields, qM]⟩
    | cons f fs =>
      simp only [ckB] at h
      split at h
      · cases h
      rename_i hno
      have hname : f.name ≠ "_" := fun e => hno (.inl e)
      have hoff : f.offset = o := Decidable.byContradiction fun e => hno (.inr e)
      -- one cell
      have one : ∀ (x y : SC) (l0 m0 : List SC) (td : TypeDesc), l = x :: l0 → m = y :: m0 → P.underlying f.type = some td → aggD (some td) = false → (∀ d, (Op.equalIn (d + 1) f.type (x.den ρ) (y.den ρ)).run P w = .ok (qL x y) w) → ckB P n (o + 1) fs l0 m0 = some (l', m') →
          ∃ l1 m1, l = l1 ++ l' ∧ m = m1 ++ m' ∧ l1.length = m1.length ∧ ∀ (d : Nat) (xs ys : Array Value), (∀ (i : Nat) x, l1[i]? = some x → xs[o + i]? = some (x.den ρ)) → (∀ (i : Nat) x, m1[i]? = some x → ys[o + i]? = some (x.den ρ)) → (Op.eqFields (d + (n + 1)) xs ys (f :: fs)).run P w = .ok (qM l1 m1) w := by
        intro x y l0 m0 td e1 e2 hu hag heq hck
        obtain ⟨l1, m1, rfl, rfl, hlen, hrun⟩ := ih (o + 1) fs l0 m0 l' m' hck
        refine ⟨x :: l1, y :: m1, e1, e2, by simp [hlen], fun d xs ys hx hy => ?_⟩
        have p1 := part_cell (P := P) w hu hag (hx 0 x rfl)
        have p2 := part_cell (P := P) w hu hag (hy 0 y rfl)
        rw [Nat.add_zero, ← hoff] at p1 p2
        have hr := hrun (d + 1) xs ys (fun i z hz => by have := hx (i + 1) z hz; rwa [show o + (i + 1) = o + 1 + i by omega] at this) (fun i z hz => by have := hy (i + 1) z hz; rwa [show o + (i + 1) = o + 1 + i by omega] at this)
        rw [show d + 1 + n = d + (n + 1) by omega] at hr
        have he := heq (d + n)
        rw [show d + n + 1 = d + (n + 1) by omega] at he
        simp only [Op.eqFields, if_pos hname, Sem.run_bind, p1, p2, Result.andThen_ok, he, qM]
        cases qL x y with
        | true => simpa using hr
        | false => simp
      split at h
      · rename_i q k a l0 k' b m0 hu
        split at h
        · rename_i hk
          subst hk
          exact one (.i k a) (.i k b) l0 m0 _ rfl rfl hu rfl (fun d => run_equalIn_int w d f.type k q a b hu) h
        · cases h
      · rename_i a l0 b m0 hu
        refine one (.s a) (.s b) l0 m0 _ rfl rfl hu rfl (fun d => ?_) h
        have := run_equalIn_string (P := P) w d f.type ⟨a.toArray⟩ ⟨b.toArray⟩ hu
        rw [bs_list, bs_list] at this
        exact this
      · rename_i a l0 b m0 hu
        exact one (.b a) (.b b) l0 m0 _ rfl rfl hu rfl (fun d => run_equalIn_bool' w d f.type a b hu) h
      · rename_i l m _ _ _ gs hu
        split at h
        · cases h
        rename_i hst
        split at h
        · rename_i l2 m2 hck
          split at h
          · rename_i hsz
            obtain ⟨l1, m1, rfl, rfl, hlen, hrun⟩ := ih 0 gs.toList l m l2 m2 hck
            obtain ⟨l3, m3, rfl, rfl, hlen3, hrun3⟩ := ih _ fs l2 m2 l' m' h
            cases hi : P.info? f.type with
            | none => rw [hi] at hsz; simp at hsz
            | some i =>
              rw [hi] at hsz
              simp only [Option.any_some, Bool.and_eq_true, beq_iff_eq, List.length_append] at hsz
              have hs1 : i.size = l1.length := by omega
              have hs2 : i.size = m1.length := by omega
              refine ⟨l1 ++ l3, m1 ++ m3, by simp, by simp, by simp [hlen, hlen3], fun d xs ys hx hy => ?_⟩
              have p1 := part_agg (P := P) (xs := xs) (o := o) w hu hi rfl
              have p2 := part_agg (P := P) (xs := ys) (o := o) w hu hi rfl
              have hfo : P.fieldsOf f.type = gs := by simp [Program.fieldsOf, hu]
              have hr := hrun d (xs.extract o (o + i.size)) (ys.extract o (o + i.size))
                (fun j z hz => by
                  have hj := (List.getElem?_eq_some_iff.1 hz).1
                  have := hx j z (by rw [List.getElem?_append_left hj]; exact hz)
                  rw [Nat.zero_add, Array.getElem?_extract, if_pos (by
                    have := (Array.getElem?_eq_some_iff.1 this).1
                    omega)]
                  exact this)
                (fun j z hz => by
                  have hj := (List.getElem?_eq_some_iff.1 hz).1
                  have := hy j z (by rw [List.getElem?_append_left hj]; exact hz)
                  rw [Nat.zero_add, Array.getElem?_extract, if_pos (by
                    have := (Array.getElem?_eq_some_iff.1 this).1
                    omega)]
                  exact this)
              have he := run_equalIn_struct (P := P) w (d + n) f.type (xs.extract o (o + i.size)) (ys.extract o (o + i.size)) (by rw [hfo]; exact hu) (by simpa using hst)
              rw [hfo, hr] at he
              have hr3 := hrun3 (d + 1) xs ys
                (fun j z hz => by
                  have := hx (l1.length + j) z (by rw [List.getElem?_append_right (by omega), Nat.add_sub_cancel_left]; exact hz)
                  rw [show o + ((l1 ++ (l3 ++ l')).length - (l3 ++ l').length) + j = o + (l1.length + j) by simp; omega]; exact this)
                (fun j z hz => by
                  have := hy (m1.length + j) z (by rw [List.getElem?_append_right (by omega), Nat.add_sub_cancel_left]; exact hz)
                  rw [show o + ((l1 ++ (l3 ++ l')).length - (l3 ++ l').length) + j = o + (m1.length + j) by simp; omega]; exact this)
              rw [show d + 1 + n = d + (n + 1) by omega] at hr3
              rw [show d + n + 1 = d + (n + 1) by omega] at he
              rw [eqCs_app hlen]
              simp only [Op.eqFields, if_pos hname, hoff, Sem.run_bind, p1, p2, Result.andThen_ok, he]
              cases qM l1 m1 with
              | true => simpa using hr3
              | false => simp
          · cases h
        · cases h
      · cases h
theorem stEq_of {t : TypeId} {la lb : List SC} (hg : P.eqGuardType P.depth t = false) (hu : P.underlying t = some (.struct (P.fieldsOf t))) (hst : P.stoodInHeld t = false) (h : ckB P 100 0 (P.fieldsOf t).toList la lb = some ([], [])) : StEq P t la lb := by
  refine ⟨hg, fun ρ w => ?_⟩
  obtain ⟨l1, m1, e1, e2, _, hrun⟩ := fields_eq (P := P) (ρ := ρ) (w := w) 100 0 _ la lb [] [] h
  rw [List.append_nil] at e1 e2
  subst e1; subst e2
  have hr := hrun 9899 (dens ρ la).toArray (dens ρ lb).toArray (fun i x hx => by rw [Nat.zero_add]; simp [dens, hx]) (fun i x hx => by rw [Nat.zero_add]; simp [dens, hx])
  unfold Op.equal Op.maxDepth
  rw [show (10000 : Nat) = 9999 + 1 from rfl, run_equalIn_struct (P := P) w 9999 t _ _ hu hst]
  exact hr
end
end Go.Proofs.YtlaagebdbcmckaaGreatDoor
/- A loop whose exit has one shape, so that what follows is walked once. No program in sight. -/
namespace Go.Proofs.YtlaagebdbcmckaaGreatDoor
set_option linter.unusedSimpArgs false
set_option linter.unusedVariables false
open Go.RowKit
section
variable {C : Cx} {nt : Nat} {sl : List (Nat × SV)} {en : List EN}
theorem Run_join {κ : Type} {c : Code} {k : List KI} (slJ : κ → List (Nat × SV)) (enJ : κ → List EN) (tail : ∀ y, Run C k nt (slJ y) (enJ y)) (use : (∀ y s, sub (slJ y) s → Run C k nt s (enJ y)) → Run C (.code c :: k) nt sl en) : Run C (.code c :: k) nt sl en :=
  use fun y _ h => Run_less h (tail y)
end
end Go.Proofs.YtlaagebdbcmckaaGreatDoor
/- A call whose text is walked in place: the callee's walk ends where the caller's goes on. No program in sight. -/
namespace Go.Proofs.YtlaagebdbcmckaaGreatDoor
set_option linter.unusedSimpArgs false
set_option linter.unusedVariables false
open Go.RowKit
section
variable {C : Cx} {nt nf : Nat} {sl : List (Nat × SV)} {en : List EN} {k : List KI}
variable {dst : Option Nat} {ty : TypeId} {pos : String} {af : Array Edge} {all r : List Oper} {gd : Option (Nat × Bool)}
structure InlC (C D : Cx) (n : Nat) (kp : List Nat) : Prop where
  p : D.P = C.P
  kp : D.kp = kp
  n0 : D.n0 = n
  df : D.df = []
  up : ∀ w, Upd D.S D.w0 w → Upd C.S C.w0 w
  rd : ∀ b o m l, C.rd b o m = some l → D.rd b o m = some l
  sz : C.w0.heap.size ≤ D.w0.heap.size
  s : ∀ b, D.S b ↔ C.S b ∨ C.w0.heap.size ≤ b
theorem InlC.ctr {D : Cx} {n : Nat} {kp : List Nat} (h : InlC C D n kp) {ctr : Ctr} (hc : CtrOk C ctr) : CtrOk D ctr := by
  intro f en xs p v hx hp ρ w hu
  rw [h.p]
  exact hc f en xs p v hx hp ρ w (h.up w hu)
end
end Go.Proofs.YtlaagebdbcmckaaGreatDoor
/- append of a text's bytes to a row of bytes. No program in sight. -/
namespace Go.Proofs.YtlaagebdbcmckaaGreatDoor
set_option linter.unusedSimpArgs false
set_option linter.unusedVariables false
open Go.RowKit
def bytesC (s : List UInt8) : List SC := s.map fun b => SC.i .u8 (b.toNat : Int)
theorem bytesC_app (a b : List UInt8) : bytesC a ++ bytesC b = bytesC (a ++ b) := by simp [bytesC]
theorem bytesC_len (a : List UInt8) : (bytesC a).length = a.length := by simp [bytesC]
theorem bytesC_den (ρ : Nat → RE) (s : List UInt8) : dens ρ (bytesC s) = Lib.strCells ⟨s.toArray⟩ := by simp [dens, bytesC, Lib.strCells, SC.den]
theorem bytesC_wf (pr : Nat → Prop) (s : List UInt8) : wfs pr (bytesC s) := by
  intro y hy
  simp only [bytesC, List.mem_map] at hy
  obtain ⟨_, _, rfl⟩ := hy; trivial
section
variable {C : Cx} {nt : Nat} {sl : List (Nat × SV)} {en : List EN} {k : List KI}
variable {dst : Option Nat} {ty : TypeId} {pos : String} {af : Array Edge} {all r : List Oper} {gd : Option (Nat × Bool)}
end
end Go.Proofs.YtlaagebdbcmckaaGreatDoor
/- append of nothing to nothing, in a region that follows the text. No program in sight. -/
namespace Go.Proofs.YtlaagebdbcmckaaGreatDoor
set_option linter.unusedSimpArgs false
set_option linter.unusedVariables false
open Go.RowKit
section
variable {C : Cx} {nt : Nat} {sl : List (Nat × SV)} {en : List EN} {k : List KI}
variable {dst : Option Nat} {ty : TypeId} {pos : String} {af : Array Edge} {all r : List Oper}
theorem append_none_op {x y : Operand} {t e : TypeId} {i : TypeInfo} {B : Option Addr} {cp : Nat} (ht : C.P.underlying t = some (.slice e)) (hi : C.P.info? e = some i) (hx : ev sl x = some (.c (.v (.slice none 0 0)))) (hy : ev sl y = some (.c (.v (.slice B 0 cp)))) (hd : ∀ d, dst = some d → d < nt)
    (hK : Run C (.ops all r :: k) nt (jN dst (.c (.v (.slice none 0 0))) sl) en) : Run C (.ops all (⟨dst, .call ⟨.builtin .append, #[x, y], #[t, t]⟩, ty, pos, af, none⟩ :: r) :: k) nt sl en := by
  refine Run_soft1 (.c (.v (.slice none 0 0))) (fun ρ a w hr => ⟨?_, trivial⟩) hd hK
  obtain ⟨x1, _⟩ := hr.ev_ok _ _ hx
  obtain ⟨y1, _⟩ := hr.ev_ok _ _ hy
  have x1' : a.eval x = .slice none 0 0 := x1
  have y1' : a.eval y = .slice B 0 cp := y1
  have h := run_append0 (P := C.P) w (ty := ty) ht hi none B 0 0 cp (Nat.le_refl _)
  simp [execOp, resolve, invoke, builtin, x1', y1', h, SV.den, SC.den]
end
end Go.Proofs.YtlaagebdbcmckaaGreatDoor
/- append to a slice that has no room: a new row, and nothing old is written. No program in sight. -/
namespace Go.Proofs.YtlaagebdbcmckaaGreatDoor
set_option linter.unusedSimpArgs false
set_option linter.unusedVariables false
open Go.RowKit
section
variable {C : Cx} {nt : Nat} {sl : List (Nat × SV)} {en : List EN} {k : List KI}
variable {dst : Option Nat} {ty : TypeId} {pos : String} {af : Array Edge} {all r : List Oper} {gd : Option (Nat × Bool)}
theorem append_full_op {x y : Operand} {t e z n m bts : Nat} {X Y : SC} {cells news : List SC} {i : TypeInfo} {zv : Value}
    (ht : C.P.underlying t = some (.slice e)) (hi : C.P.info? e = some i) (hz : i.zero = some zv) (hs : i.size = z) (hb : i.bytes = bts) (hzs : zv.cells.size = z) (he : e ≠ DEAD)
    (hXs : SrcOk C en X n cells) (hXd : ∀ ρ a cp, X.den ρ = .slice (some a) n cp → cp = n) (hlx : cells.length = n * z) (hwc : ∀ pr, wfs pr cells) (hx : ev sl x = some (.c X)) (hy : ev sl y = some (.c Y)) (hY : SrcOk C en Y m news) (hl : news.length = m * z) (hwn : ∀ pr, wfs pr news)
    (hm : 0 < m) (hnm : n + m ≤ 100000000000) (hbts : (n + m) * bts ≤ 140737488355328) (hn0 : C.n0 ≤ en.length)
    (hg : gdT all sl gd = true) (hd : ∀ d, dst = some d → d < nt)
    (hK : Run C (.ops all r :: k) nt (jN dst (.c (.rw (zG en) (n + m))) sl) (zF en (rwE e z (n + m) (cells ++ news)))) :
    Run C (.ops all (⟨dst, .call ⟨.builtin .append, #[x, y], #[t, t]⟩, ty, pos, af, gd⟩ :: r) :: k) nt sl en := by
  have hle : (zF en (rwE e z (n + m) (cells ++ news))).length = en.length + 1 := by rw [snoc_eq]; simp
  refine Run_hop _ _ hg (by rw [hle]; omega) ?_ hd hK
  intro ρ a w hrep
  obtain ⟨x1, x2⟩ := hrep.ev_ok _ _ hx
  obtain ⟨y1, y2⟩ := hrep.ev_ok _ _ hy
  have hw := hrep.hw
  obtain ⟨ax, cx, e1, holds⟩ := hXs ρ _ w hw x2
  have hcx := hXd ρ ax cx e1
  rw [hcx] at e1
  obtain ⟨ay, cy, e2, hnews⟩ := hY ρ _ w hw y2
  have hlo : (dens ρ cells).length = n * i.size := by rw [dens_len, hlx, hs]
  have hln : (dens ρ news).length = m * i.size := by rw [dens_len, hl, hs]
  have hcap : Builtin.nextslicecap (n + m) n * i.bytes ≤ 281474976710656 := by
    have h1 := nextslicecap_le (need := n + m) (old := n) (by omega)
    have h2 := Nat.mul_le_mul_right i.bytes h1
    rw [hb] at h2 ⊢
    rw [Nat.mul_assoc] at h2
    omega
  have hrun := run_append_grow (P := C.P) w t ty e i zv ht hi hz ax n n (dens ρ cells) hlo holds ay m cy (dens ρ news) hln hnews (by omega) (by omega) hcap
  have hge := grownCap_ge w (n + m) n e
  have hcm := grownCap_le_maxLen w (n + m) n e (by unfold maxLen; omega)
  obtain ⟨v', hv'⟩ : ∃ v' : Value, v' = .slice (some ⟨w.heap.size, 0, none⟩) (n + m) (grownCap w (n + m) n e) := ⟨_, rfl⟩
  obtain ⟨w', hw'⟩ : ∃ w', w' = w.drew.alloc (.cells ((dens ρ cells).toArray ++ (dens ρ news).toArray ++ Builtin.zeroCells zv.cells (grownCap w (n + m) n e - (n + m))) e) := ⟨_, rfl⟩
  rw [← hv', ← hw'] at hrun
  have hnm0 : 0 + (n + m) = n + m := by omega
  have h2 : w'.ownsRow 0 e z v' (0 + (n + m)) (dens ρ ([] ++ (cells ++ news))) := by
    rw [hnm0, List.nil_append]
    refine ⟨by rw [dens_len, List.length_append, hlx, hl, Nat.add_mul], .inr ⟨w.heap.size, _, _, hv', Nat.zero_le _, by rw [hw']; exact heap_alloc_new w.drew _, hge, hcm, ?_, ?_⟩⟩
    · simp only [Array.size_append, List.size_toArray, size_zeroCells, hzs, dens_len, hlx, hl]
      rw [← Nat.add_mul, ← Nat.add_mul]
      congr 1
      omega
    · simp only [Array.toList_append]
      rw [List.take_left' (by rw [List.length_append, dens_len, dens_len, hlx, hl, Nat.add_mul]), dens, dens, dens, List.map_append]
  have h3 : w.grownBy w' none := by rw [hw']; exact ⟨rfl, rfl, rfl, by simp, fun k hk _ => Go.heap_alloc_old w.drew _ hk⟩
  obtain ⟨ρ', e0, k1, k2⟩ := append_core (C := C) (pr := (· < en.length)) (N := en.length) (mk := fun q => q = en.length) (en := en) (en' := zF en (rwE e z (0 + (n + m)) ([] ++ (cells ++ news)))) (m := n + m) (n := 0) (cells := []) (news := cells ++ news) (X := .v (.slice none 0 0)) (o := none) (vb := none) he (.none rfl rfl)
    (fun pr y hy => (List.mem_append.1 hy).elim (hwc pr y) (hwn pr y)) hn0 (fun _ => Iff.rfl) (by have := nth_snoc (en := en) (e := rwE e z (0 + (n + m)) ([] ++ (cells ++ news))); rwa [lenN_eq] at this)
    (fun q hq => nth_snoc_ne (by rw [lenN_eq]; exact hq)) (Nat.lt_irrefl _) hw trivial (fun g h => by cases h) h2 h3 (.inr (by rw [hv']; rfl))
  rw [hnm0, List.nil_append] at k2
  rw [hnm0] at e0
  refine ⟨ρ', w', ?_, k1, ?_, k2.iff (fun q => by rw [hle]; omega)⟩
  · have x1' : a.eval x = .slice (some ax) n n := x1.trans e1
    have y1' : a.eval y = .slice (some ay) m cy := y1.trans e2
    rw [lenN_eq, e0]
    simp [execOp, resolve, invoke, builtin, x1', y1', hrun]
  · show zG en < _
    rw [lenN_eq, hle]; omega
end
end Go.Proofs.YtlaagebdbcmckaaGreatDoor
/- Shifts and bits of numbers that are natural. No program in sight. -/
namespace Go.Proofs.YtlaagebdbcmckaaGreatDoor
set_option linter.unusedSimpArgs false
set_option linter.unusedVariables false
theorem bvN (n a : Nat) : BitVec.ofInt n (a : Int) = BitVec.ofNat n a := by
  apply BitVec.eq_of_toNat_eq
  rw [BitVec.toNat_ofInt, BitVec.toNat_ofNat]
  rw [show ((a : Int) % ((2 ^ n : Nat) : Int)) = ((a % 2 ^ n : Nat) : Int) from (Int.natCast_emod _ _).symm, Int.toNat_natCast]
theorem u32w (a : Nat) : IntKind.u32.wrap (a : Int) = ((a % 4294967296 : Nat) : Int) := by rw [IntKind.wrap_u32']; omega
theorem u8w (a : Nat) : IntKind.u8.wrap (a : Int) = ((a % 256 : Nat) : Int) := by rw [IntKind.wrap_u8']; omega
theorem u32i {a : Nat} (h : a < 4294967296) : IntKind.u32.wrap (a : Int) = (a : Int) := by rw [u32w, Nat.mod_eq_of_lt h]
theorem orN {a b : Nat} (ha : a < 4294967296) (hb : b < 4294967296) : orZ .u32 (a : Int) (b : Int) = ((a ||| b : Nat) : Int) := by
  unfold orZ
  rw [show IntKind.u32.bits = 32 from rfl, bvN, bvN, BitVec.toNat_or, BitVec.toNat_ofNat, BitVec.toNat_ofNat, Nat.mod_eq_of_lt (b := 2 ^ 32) ha, Nat.mod_eq_of_lt (b := 2 ^ 32) hb]
  exact u32i (Nat.or_lt_two_pow (n := 32) ha hb)
theorem andN {a b : Nat} (ha : a < 4294967296) (hb : b < 4294967296) : andZ .u32 (a : Int) (b : Int) = ((a &&& b : Nat) : Int) := by
  unfold andZ
  rw [show IntKind.u32.bits = 32 from rfl, bvN, bvN, BitVec.toNat_and, BitVec.toNat_ofNat, BitVec.toNat_ofNat, Nat.mod_eq_of_lt (b := 2 ^ 32) ha, Nat.mod_eq_of_lt (b := 2 ^ 32) hb]
  exact u32i (Nat.lt_of_le_of_lt Nat.and_le_left ha)
theorem shlN (a n : Nat) (hn : n ≤ 32) : shlZ .u32 (a : Int) (n : Int) = ((a * 2 ^ n % 4294967296 : Nat) : Int) := by
  unfold shlZ
  rw [show IntKind.u32.bits = 32 from rfl, Int.toNat_natCast, Nat.min_eq_left hn, ← u32w]
  congr 1
theorem shrN (a n : Nat) (hn : n ≤ 32) : shrZ .u32 (a : Int) (n : Int) = ((a / 2 ^ n : Nat) : Int) := by
  unfold shrZ
  rw [show IntKind.u32.bits = 32 from rfl, Int.toNat_natCast, Nat.min_eq_left hn]
  rw [show ((2 : Int) ^ n) = ((2 ^ n : Nat) : Int) by rw [Int.natCast_pow]; rfl]
  exact Int.ofNat_fdiv _ _ |>.symm
theorem and_mask (b n : Nat) : b &&& (2 ^ n - 1) = b % 2 ^ n := Nat.and_two_pow_sub_one_eq_mod b n
theorem and63 (b : Nat) : b &&& 63 = b % 64 := Nat.and_two_pow_sub_one_eq_mod b 6
end Go.Proofs.YtlaagebdbcmckaaGreatDoor
/- words.Key, walked. -/
namespace Go.Proofs.YtlaagebdbcmckaaGreatDoor
set_option linter.unusedSimpArgs false
set_option linter.unusedVariables false
open Go.RowKit
def chB (c : UInt8) : Bool := decide (32 < c.toNat) && decide (c.toNat ≠ 127)
theorem keyB_eq (k : List UInt8) : keyB k = (!k.isEmpty && k.all chB && decide (k.length ≤ 250)) := rfl
set_option maxHeartbeats 1000000 in
theorem key (k : List UInt8) (hl : k.length ≤ 9223372036854775807) (w : World) : Calls Tryz.prog 20 #[.string ⟨k.toArray⟩] w fun e w' => e = .returned (.bool (keyB k)) ∧ w = w' := by
  obtain ⟨n, hn⟩ : ∃ n, n = k.length := ⟨_, rfl⟩
  have HN := Lib.hid hn
  rw [← hn] at hl
  have hfin := keyB_eq k
  rw [← hn] at hfin
  have HF := Lib.hid hfin
  have hsz : (⟨k.toArray⟩ : ByteArray).size = n := by rw [hn]; rfl
  clear hn hfin
  go_enter Tryz.func20, Tryz.ntmps20
  go_wp2_with fail
  go_loop [7] (fun i => ∃ j : Nat, j ≤ n ∧ i = .int .i64 j ∧ (k.take j).all chB = true) (fun i => n - (intOf i).toNat)
  case atStart => exact ⟨0, Nat.zero_le _, rfl, rfl⟩
  case round =>
    obtain ⟨j, hj, rfl, hall⟩ := hrel
    have HA := Lib.hid hall; clear hall
    by_cases hlt : j < n
    · have hjs : j < (⟨k.toArray⟩ : ByteArray).size := by rw [hsz]; exact hlt
      have hjk : j < k.length := by rw [← HN.out]; exact hlt
      have hbyte : (⟨k.toArray⟩ : ByteArray)[j]'hjs = k[j]'hjk := rfl
      have HB := Lib.hid hbyte; clear hbyte
      have hbad : chB (k[j]'hjk) = false → keyB k = false := fun h => by
        rw [keyB_eq]
        have : k.all chB = false := by
          refine Bool.eq_false_iff.2 fun h2 => ?_
          have := List.all_eq_true.1 h2 _ (List.getElem_mem hjk)
          rw [h] at this; cases this
        rw [this]; simp
      have HBAD := Lib.hid hbad; clear hbad
      by_cases h32 : ((⟨k.toArray⟩ : ByteArray)[j]'hjs).toNat ≤ 32
      · go_wp2_with fail
        go_ret
        refine ⟨ret_bool (HBAD.out ?_).symm, rfl⟩
        rw [← HB.out]; unfold chB; rw [decide_eq_false (by omega)]; rfl
      · by_cases h127 : ((⟨k.toArray⟩ : ByteArray)[j]'hjs).toNat = 127
        · have hb : ((((⟨k.toArray⟩ : ByteArray)[j]'hjs).toNat : Int) == 127) = true := by rw [h127]; rfl
          have H127 := Lib.hid h127; clear h127
          go_wp2_with fail
          go_ret
          refine ⟨ret_bool (HBAD.out ?_).symm, rfl⟩
          rw [← HB.out]; unfold chB; rw [H127.out]; rfl
        · have hb : ((((⟨k.toArray⟩ : ByteArray)[j]'hjs).toNat : Int) == 127) = false := by simp; omega
          have H127 := Lib.hid h127; clear h127
          go_wp2_with fail
          go_round
          case rel =>
            refine ⟨j + 1, by omega, by go_num, ?_⟩
            rw [List.take_succ_eq_append_getElem hjk, List.all_append, HA.out, ← HB.out]
            simp only [List.all_cons, List.all_nil, chB, Bool.true_and, Bool.and_true]
            rw [decide_eq_true (by omega), decide_eq_true H127.out]; rfl
          case measure => simp [intOf]; omega
    · obtain rfl : j = n := by omega
      have hka : k.all chB = true := by have h := HA.out; rwa [HN.out, List.take_length] at h
      have HKA := Lib.hid hka; clear hka
      have hfin2 : keyB k = (!k.isEmpty && decide (j ≤ 250)) := by rw [HF.out, HKA.out, Bool.and_true]
      have HF2 := Lib.hid hfin2; clear hfin2
      by_cases h0 : k = []
      · subst h0
        have hj0 : j = 0 := HN.out
        subst hj0
        go_wp2_with fail
        go_ret
        exact ⟨rfl, rfl⟩
      · have he : k.isEmpty = false := by simpa using h0
        have hne : (!k.isEmpty) = true := by rw [he]; rfl
        go_wp2_with fail
        go_ret
        refine ⟨ret_bool ?_, rfl⟩
        rw [HF2.out, he]
        by_cases h : j ≤ 250
        · rw [decide_eq_true h]; simp; omega
        · rw [decide_eq_false h]; simp; omega
end Go.Proofs.YtlaagebdbcmckaaGreatDoor
