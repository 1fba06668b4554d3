/- Rows of items as entries: one is made, one takes another one's place; the model's operations as calls in a walk. -/
import Derived.Test.YtfmpdbngpknmaaaDoorBG
import Derived.Test.YtfmpdbngpknmaaaDoorBF
import Derived.Test.YtfmpdbngpknmaaaDoorBH
import Derived.Test.YtfmpdbngpknmaaaDoorBD
import Derived.Test.YtfmpdbngpknmaaaDoorCMstore
import Derived.Test.YtfmpdbngpknmaaaDoorCMmath
namespace Go.Proofs.YtfmpdbngpknmaaaDoor
set_option linter.unusedSimpArgs false
set_option linter.unusedVariables false
open Go.RowKit

/-- entries behind a step that made entry N, and perhaps changed or ended others -/
theorem Hw.rebuild {C : Cx} {ρ : Nat → RE} {pr : Nat → Prop} {en en' : List EN} {w w' : World} {N : Nat} {e : EN} {T : Nat → Prop} (r : RE) (hw : Hw C ρ pr en w) (lN : ¬ pr N) (hn1 : C.n0 ≤ N) (hU : Upd T w w') (hT : ∀ k, k < C.w0.heap.size → T k → C.S k)
    (hold : ∀ q, pr q →
      (zD en' q = zD en q ∧ (deadE (ρ q) (zD en q) = false → ¬ T (ρ q).blk)) ∨
      (∃ e, zD en q = some e ∧ zD en' q = some (deadOf e)) ∨
      (∃ ty cells cells' mu, zD en q = some ⟨ty, cells, mu⟩ ∧ zD en' q = some ⟨ty, cells', mu⟩ ∧ ty.1 ≠ DEAD ∧ HE (updR ρ N r) (fun q => pr q ∨ q = N) w' q ty cells' mu))
    (hN : zD en' N = some e) (hE : HE (updR ρ N r) (fun q => pr q ∨ q = N) w' N e.ty e.cells e.mu) (hO : r.pre.length = e.ty.2.1 ∧ e.ty.2.2 r)
    (hne : r.nl = none → ∀ q, pr q → deadE (ρ q) (zD en' q) = false → (ρ q).blk ≠ r.blk) (hmu : e.mu = true → C.S r.blk ∨ C.w0.heap.size ≤ r.blk) :
    (∀ q, pr q → updR ρ N r q = ρ q) ∧ Hw C (updR ρ N r) (fun q => pr q ∨ q = N) en' w' := by
  have ho : ∀ q, pr q → updR ρ N r q = ρ q := fun q hq => if_neg (fun h : q = N => lN (h ▸ hq))
  have hn : updR ρ N r N = r := if_pos rfl
  have hlive : ∀ q, pr q → deadE (ρ q) (zD en' q) = false → deadE (ρ q) (zD en q) = false := by
    intro q hq hl
    rcases hold q hq with ⟨h1, _⟩ | ⟨e, h1, h2⟩ | ⟨ty, cells, cells', mu, h1, h2, h3, _⟩
    · rw [← h1]; exact hl
    · rw [h2] at hl; exact absurd hl (by simp [deadOf, deadE])
    · exact (deadE_of h1).2 ⟨h3, ((deadE_of h2).1 hl).2⟩
  refine ⟨ho, ?_, ?_, ?_, hw.up.trans hU hT, ?_, ?_⟩
  · intro q ty cells mu hq hqe
    by_cases hqN : q = N
    · subst hqN
      rw [hN] at hqe
      cases e
      simp only [Option.some.injEq, EN.mk.injEq] at hqe
      obtain ⟨rfl, rfl, rfl⟩ := hqe
      exact hE
    have hq' := hq.resolve_right hqN
    rcases hold q hq' with ⟨h1, h2⟩ | ⟨e', h1, h2⟩ | ⟨ty', cells0, cells', mu', h1, h2, h3, h4⟩
    · rw [h1] at hqe
      have hp := hw.hp q ty cells mu hq' hqe
      refine ⟨fun hl => ?_, wfs_mono hp.wf (fun _ h => Or.inl h), hp.dead, by rw [ho q hq']; exact hp.non⟩
      rw [ho q hq'] at hl
      have hlv : deadE (ρ q) (zD en q) = false := (deadE_of hqe).2 hl
      rw [ho q hq', dens_congr hp.wf ho, hU.block _ (hw.lt hq' hlv) (h2 hlv)]
      exact hp.heap hl
    · rw [h2] at hqe
      simp only [Option.some.injEq, deadOf, EN.mk.injEq] at hqe
      obtain ⟨rfl, rfl, rfl⟩ := hqe
      exact ⟨fun hl => absurd rfl hl.1, (fun y hy => nomatch hy), fun _ => ⟨rfl, rfl⟩, fun _ => rfl⟩
    · rw [h2] at hqe
      simp only [Option.some.injEq, EN.mk.injEq] at hqe
      obtain ⟨rfl, rfl, rfl⟩ := hqe
      exact h4
  · intro q ty cells mu hq hqe
    by_cases hqN : q = N
    · subst hqN
      rw [hN] at hqe
      cases e
      simp only [Option.some.injEq, EN.mk.injEq] at hqe
      obtain ⟨rfl, rfl, rfl⟩ := hqe
      rw [hn]; exact hO
    have hq' := hq.resolve_right hqN
    rw [ho q hq']
    rcases hold q hq' with ⟨h1, h2⟩ | ⟨e', h1, h2⟩ | ⟨ty', cells0, cells', mu', h1, h2, h3, h4⟩
    · rw [h1] at hqe; exact hw.ho q ty cells mu hq' hqe
    · rw [h2] at hqe
      cases e'
      simp only [Option.some.injEq, deadOf, EN.mk.injEq] at hqe
      obtain ⟨rfl, rfl, rfl⟩ := hqe
      have h3 := hw.ho q _ _ _ hq' h1
      exact h3
    · rw [h2] at hqe
      simp only [Option.some.injEq, EN.mk.injEq] at hqe
      obtain ⟨rfl, rfl, rfl⟩ := hqe
      exact hw.ho q _ _ _ hq' h1
  · intro q d hq hd hql hdl hb
    rcases hq with hq | rfl <;> rcases hd with hd | rfl
    · rw [ho q hq, ho d hd] at hb
      rw [ho q hq] at hql
      rw [ho d hd] at hdl
      exact hw.inj q d hq hd (hlive q hq hql) (hlive d hd hdl) hb
    · rw [ho q hq, hn] at hb
      rw [ho q hq] at hql
      rw [hn] at hdl
      exact absurd hb (hne ((deadE_of hN).1 hdl).2 q hq hql)
    · rw [ho d hd, hn] at hb
      rw [ho d hd] at hdl
      rw [hn] at hql
      exact absurd hb.symm (hne ((deadE_of hN).1 hql).2 d hd hdl)
    · rfl
  · intro q ty cells hq hqe
    by_cases hqN : q = N
    · subst hqN
      rw [hN] at hqe
      cases e
      simp only [Option.some.injEq, EN.mk.injEq] at hqe
      obtain ⟨rfl, rfl, rfl⟩ := hqe
      rw [hn]; exact hmu rfl
    have hq' := hq.resolve_right hqN
    rw [ho q hq']
    rcases hold q hq' with ⟨h1, h2⟩ | ⟨e', h1, h2⟩ | ⟨ty', cells0, cells', mu', h1, h2, h3, h4⟩
    · rw [h1] at hqe; exact hw.mu q ty cells hq' hqe
    · rw [h2] at hqe
      simp only [Option.some.injEq, deadOf, EN.mk.injEq] at hqe
      exact absurd hqe.2.2 (by decide)
    · rw [h2] at hqe
      simp only [Option.some.injEq, EN.mk.injEq] at hqe
      obtain ⟨rfl, rfl, rfl⟩ := hqe
      exact hw.mu q _ _ hq' h1
  · intro q hq
    rw [show updR ρ N r q = ρ q from if_neg (by omega)]
    exact hw.ini q hq

/-- where a row lies -/
theorem row_re {base : Nat} {w : World} {v : Value} {xs : List It} (ho : OwnI base w v xs) (x0 : Nat) (hx0 : base ≤ x0) :
    ∃ r : RE, rwOf r xs.length = v ∧ rowI base xs r ∧ (r.nl = none → oB v = some r.blk ∧ w.heap[r.blk]? = some (.cells (r.pre ++ r.post).toArray 31 (0, 0))) ∧ (r.nl ≠ none → r.blk = x0) ∧ r.pre = [] := by
  rcases ho with ⟨p, rfl, rfl⟩ | ⟨g, cap, R, rfl, hb, hc, hI⟩
  · exact ⟨⟨x0, [], [], 0, some p⟩, rfl, .inr ⟨by simp, rfl, rfl⟩, (fun h => nomatch h), fun _ => rfl, rfl⟩
  · exact ⟨⟨g, [], flat xs ++ R, cap, none⟩, rfl, .inl ⟨rfl, hb, hc, hI.big, rfl, R, rfl, hI.fit⟩, fun _ => ⟨oB_pos hc, hI.heap⟩, fun h => absurd rfl h, rfl⟩
/-- a row as its entry tells it -/
theorem own_of {C : Cx} {ρ : Nat → RE} {pr : Nat → Prop} {en : List EN} {w : World} {base : Nat} {xs : List It} {d : Nat} {mu : Bool} (hw : Hw C ρ pr en w) (ld : pr d) (hd : zD en d = some ⟨(31, 0, rowI base xs), [], mu⟩) : OwnI base w (rwOf (ρ d) xs.length) xs := by
  obtain ⟨h0, h1⟩ := hw.ho d _ _ _ ld hd
  cases hnl : (ρ d).nl with
  | none =>
    rcases h1 with ⟨_, q1, qc, q2, q3, R, q4, q5⟩ | ⟨hn, _⟩
    · refine .inr ⟨_, _, R, rwOf_on hnl _, q1, qc, ?_, q5, q2⟩
      rw [(hw.hp d _ _ _ ld hd).heap ⟨(show (31 : Nat) ≠ DEAD by decide), hnl⟩, q3, q4]
      rfl
    · exact absurd hnl hn
  | some p =>
    rcases h1 with ⟨hn, _⟩ | ⟨_, hx, _⟩
    · rw [hnl] at hn; cases hn
    · exact .inl ⟨p, by rw [rwOf_off hnl, hx]; rfl, hx⟩
theorem he_row {C : Cx} {ρ : Nat → RE} {pr : Nat → Prop} {w : World} {base : Nat} {xs : List It} {N : Nat} {v : Value} {r : RE} (hrn : r.nl = none → oB v = some r.blk ∧ w.heap[r.blk]? = some (.cells (r.pre ++ r.post).toArray 31 (0, 0))) :
    HE (updR ρ N r) (fun q => pr q ∨ q = N) w N (rowE base xs).ty (rowE base xs).cells (rowE base xs).mu := by
  have hn : updR ρ N r N = r := if_pos rfl
  refine ⟨fun hl => ?_, (fun y hy => nomatch hy), fun hd => absurd (show (31 : Nat) = DEAD from hd) (by decide), fun _ => rfl⟩
  rw [hn] at hl
  rw [hn, (hrn hl.2).2]
  simp [rowE, dens]
theorem new_row {C : Cx} {ρ : Nat → RE} {pr : Nat → Prop} {en en' : List EN} {w w' : World} {base : Nat} {xs : List It} {v' : Value} {N : Nat} (hw : Hw C ρ pr en w) (lN : ¬ pr N) (hn1 : C.n0 ≤ N) (hN : zD en' N = some (rowE base xs)) (hq : ∀ q, pr q → zD en' q = zD en q)
    (hb : Below w.heap.size w w') (ho : OwnI w.heap.size w' v' xs) (hbase : base ≤ w.heap.size) :
    ∃ ρ', (∀ q, pr q → ρ' q = ρ q) ∧ rwOf (ρ' N) xs.length = v' ∧ Hw C ρ' (fun q => pr q ∨ q = N) en' w' := by
  obtain ⟨r, h1, h2, h3, h4, h5⟩ := row_re ho w.heap.size (Nat.le_refl _)
  have hlow : w.heap.size ≤ r.blk := by
    cases hr : r.nl with
    | none => exact (ho.lt _ (h3 hr).1).1
    | some p => rw [h4 (by rw [hr]; simp)]; exact Nat.le_refl _
  have hrow : rowI base xs r := h2.imp (fun h => ⟨h.1, Nat.le_trans hbase h.2.1, h.2.2⟩) id
  obtain ⟨k1, k2⟩ := Hw.rebuild (e := rowE base xs) (T := Non) r hw lN hn1 (Upd.of_below hb) (fun k _ h => h.elim) (fun q hq' => .inl ⟨hq q hq', fun _ h => h⟩) hN (he_row (C := C) h3) ⟨by rw [h5]; rfl, hrow⟩
    (fun _ q hq' hl => by rw [hq q hq'] at hl; have := hw.lt hq' hl; omega) (fun _ => .inr (Nat.le_trans hw.up.size hlow))
  exact ⟨_, k1, by rw [show updR ρ N r N = r from if_pos rfl]; exact h1, k2⟩

/-- slices.Clone, as a call in a walk -/
theorem clone_h {C : Cx} {nE N d : Nat} {mk : Nat → Prop} {en en' : List EN} {b base : Nat} {xs : List It} {mu : Bool} (hP : C.P = Tryd.prog) (hd : zD en d = some ⟨(31, 0, rowI b xs), [], mu⟩) (hbase : base ≤ C.w0.heap.size) (hn1 : C.n0 ≤ N) (hn : xs.length ≤ 1000000000) (hE : d < nE) (hmk : ∀ q, mk q ↔ q = N)
    (hN : zD en' N = some (rowE base xs)) (hq : ∀ q, q ≠ N → zD en' q = zD en q) :
    HCall C nE mk en en' 17 [.c (.rw d xs.length)] (.c (.rw N xs.length)) := by
  refine ⟨fun args w => by rw [hP]; exact Tryd.call17 args w, ?_⟩
  intro ρ pr w hpr hmn hw hex hwf
  rw [hP]
  have lN : ¬ pr N := hmn _ ((hmk _).2 rfl)
  have ho := own_of hw (hpr d hE) hd
  have ho0 : OwnI 0 w (rwOf (ρ d) xs.length) xs := ho.imp id (fun ⟨g, c, R, h1, _, h3⟩ => ⟨g, c, R, h1, Nat.zero_le _, h3⟩)
  refine (clone_op _ xs w ho0 hn).mono ?_
  rintro e w' ⟨v', rfl, ho', hb⟩
  obtain ⟨ρ', k1, k2, k3⟩ := new_row hw lN hn1 hN (fun q hq' => hq q (fun h => lN (h ▸ hq'))) hb ho' (Nat.le_trans hbase hw.up.size)
  have hsame : (fun q => pr q ∨ mk q) = fun q => pr q ∨ q = N := funext fun q => propext (or_congr_right (hmk q))
  rw [hsame]
  refine ⟨ρ', k1, by rw [← k2]; rfl, .inr rfl, k3, fun q hq' => ?_⟩
  rw [(hmk q).1 hq', hN]; exact fun h => nomatch h

/-- an entry that lies elsewhere than a row -/
theorem row_off {C : Cx} {ρ : Nat → RE} {pr : Nat → Prop} {en : List EN} {w : World} {base : Nat} {xs : List It} {d q n : Nat} {mu : Bool} (hw : Hw C ρ pr en w) (ld : pr d) (hd : zD en d = some ⟨(31, 0, rowI base xs), [], mu⟩) (hq : pr q) (hqd : q ≠ d) (hl : deadE (ρ q) (zD en q) = false) : oB (rwOf (ρ d) n) ≠ some (ρ q).blk := by
  intro h
  obtain ⟨hdn, hb⟩ := oB_rw h
  exact hqd (hw.inj d q ld hq ((deadE_of hd).2 ⟨(show (31 : Nat) ≠ DEAD by decide), hdn⟩) hl hb).symm
theorem row_mu {C : Cx} {ρ : Nat → RE} {pr : Nat → Prop} {en : List EN} {w : World} {base : Nat} {xs : List It} {d n k : Nat} (hw : Hw C ρ pr en w) (ld : pr d) (hd : zD en d = some (rowE base xs)) (h : oB (rwOf (ρ d) n) = some k) : C.S k ∨ C.w0.heap.size ≤ k := by
  obtain ⟨_, rfl⟩ := oB_rw h
  exact hw.mu d _ _ ld hd
/-- slices.DeleteFunc of those that are gone, as a call in a walk -/
theorem gone_h {C : Cx} {nE N d y : Nat} {mk : Nat → Prop} {en en' : List EN} {base : Nat} {xs : List It} {now : Int} {t : TypeId × Nat × (RE → Prop)} {mu : Bool} (hP : C.P = Tryd.prog) (hd : zD en d = some (rowE base xs)) (hy : zD en y = some ⟨t, [.i .i64 now], mu⟩) (hyo : t.2.1 = 0) (hyd : y ≠ d) (hbase : base ≤ C.w0.heap.size) (hn1 : C.n0 ≤ N) (hn : xs.length ≤ 1000000000) (hE : d < nE) (hEy : y < nE) (hmk : ∀ q, mk q ↔ q = N)
    (hm : Cut N en en' d (rowE base (xs.filter fun x => !goneB now x))) :
    HCall C nE mk en en' 16 [.c (.rw d xs.length), .c (.f (.func 18) [(y, 0)])] (.c (.rw N (xs.filter fun x => !goneB now x).length)) := by
  refine ⟨fun args w => by rw [hP]; exact Tryd.call16 args w, ?_⟩
  intro ρ pr w hpr hmn hw hex hwf
  rw [hP]
  have lN : ¬ pr N := hmn _ ((hmk _).2 rfl)
  have ld := hpr d hE
  have ly := hpr y hEy
  have ho := own_of hw ld hd
  have hylive : deadE (ρ y) (zD en y) = false := by
    refine (deadE_of hy).2 ⟨fun h => ?_, Decidable.byContradiction fun h => ?_⟩
    · have := ((hw.hp y _ _ _ ly hy).dead h).1; cases this
    · have := (hw.hp y _ _ _ ly hy).non h; cases this
  have hcell : w.cell? ⟨(ρ y).blk, 0, none⟩ = some (.int .i64 now) := by
    have := hw.hp.cellAt ly hy (j := 0) (x := .i .i64 now) rfl
    rw [(hw.ho y _ _ _ ly hy).1, hyo] at this
    exact this
  have hb0 : oB (rwOf (ρ d) xs.length) ≠ some (ρ y).blk := row_off hw ld hd ly hyd hylive
  have hargs : (List.map (SV.den ρ) [.c (.rw d xs.length), .c (.f (.func 18) [(y, 0)])]).toArray = #[rwOf (ρ d) xs.length, .func (.func 18) #[] #[.pointer (some ⟨(ρ y).blk, 0, none⟩)]] := by
    simp [SV.den, SC.den, ptrOf, (hw.ho y _ _ _ ly hy).1, hyo]
  rw [hargs]
  refine (gone_op base (ρ y).blk now _ xs w ho hcell hb0 hn).mono ?_
  rintro e w' ⟨v', rfl, ho', hob, hU⟩
  obtain ⟨r, h1, h2, h3, h4, h5⟩ := row_re ho' w.heap.size (Nat.le_trans hbase hw.up.size)
  obtain ⟨mN, mq⟩ := hm
  obtain ⟨k1, k2⟩ := Hw.rebuild (e := rowE base (xs.filter fun x => !goneB now x)) (T := fun k => oB (rwOf (ρ d) xs.length) = some k) r hw lN hn1 hU
    (fun k hk h => (row_mu hw ld hd h).resolve_right (by omega))
    (fun q hq => by
      rcases mq q (fun h => lN (h ▸ hq)) with ⟨k1, k2⟩ | ⟨_, e, k2, k3⟩
      · exact .inl ⟨k2, fun hl => row_off hw ld hd hq k1 hl⟩
      · exact .inr (.inl ⟨e, k2, k3⟩))
    mN (he_row (C := C) h3) ⟨by rw [h5]; rfl, h2⟩
    (fun hr q hq hl => by
      rcases mq q (fun h => lN (h ▸ hq)) with ⟨k1, k2⟩ | ⟨_, e, k2, k3⟩
      · rw [k2] at hl
        intro hb
        exact row_off hw ld hd hq k1 hl (by rw [hb, ← hob]; exact (h3 hr).1)
      · rw [k3] at hl; exact absurd hl (by simp [deadOf, deadE]))
    (fun _ => by
      cases hr : r.nl with
      | none => exact row_mu hw ld hd (by rw [← hob]; exact (h3 hr).1)
      | some p => rw [h4 (by rw [hr]; simp)]; exact .inr hw.up.size)
  have hsame : (fun q => pr q ∨ mk q) = fun q => pr q ∨ q = N := funext fun q => propext (or_congr_right (hmk q))
  rw [hsame]
  refine ⟨_, k1, ?_, .inr rfl, k2, fun q hq' => ?_⟩
  · rw [← h1]
    show _ = Ending.returned (rwOf (updR ρ N r N) _)
    rw [show updR ρ N r N = r from if_pos rfl]
  · rw [(hmk q).1 hq', mN]; exact fun h => nomatch h
end Go.Proofs.YtfmpdbngpknmaaaDoor
/- An operation of the model, as a call in a walk. -/
namespace Go.Proofs.YtfmpdbngpknmaaaDoor
set_option linter.unusedSimpArgs false
set_option linter.unusedVariables false
open Go.RowKit

/-- entries where the row has moved: the old row's is no more, a new one stands at N; the world's entry z is told anew -/
def MovedZ (z N : Nat) (en en' : List EN) (vS : SC) (z0 zN : EN) : Prop :=
  zD en' z = some z0 ∧ zD en' N = some zN ∧
  ∀ q, q ≠ z → q ≠ N → ((∀ n, vS ≠ .rw q n) ∧ zD en' q = zD en q) ∨ ((∃ n, vS = .rw q n) ∧ ∃ e, zD en q = some e ∧ zD en' q = some (deadOf e))
def RowOf (z base : Nat) (X : St) (en : List EN) (vS : SC) : Prop :=
  ((∃ p, vS = .v (.slice p 0 0)) ∧ X.items = []) ∨ ∃ d, vS = .rw d X.items.length ∧ d ≠ z ∧ zD en d = some (rowE base X.items)
theorem op_h {C : Cx} {nE N z : Nat} {mk : Nat → Prop} {en en' : List EN} {base : Nat} {X X' : St} {vS : SC} {now : Int} {c : Cd} {most : Int} {i : Nat} {is : Bool} {an : An} {f : FuncId} (hP : C.P = Tryd.prog) (hcf : ∀ args w, (callFunc f args).run Tryd.prog w = .ok (.enter f args) w)
    (hz : zD en z = some (woE vS X now c most i is)) (hd : RowOf z base X en vS) (hbase : base ≤ C.w0.heap.size) (hS : ∀ k, C.S k → base ≤ k) (hn1 : C.n0 ≤ N) (hE : z < nE) (hmk : ∀ q, mk q ↔ q = N)
    (hop : ∀ w g v, Upd C.S C.w0 w → base ≤ w.heap.size → WS base w g v X now c most i is → Calls Tryd.prog f #[.pointer (some ⟨g, 0, none⟩)] w (OpR base g v X' now c most i is an w))
    (hm : MovedZ z N en en' vS (woE (.rw N X'.items.length) X' now c most i is) (rowE base X'.items)) :
    HCall C nE mk en en' f [.c (.p z 0)] (.g (anS an)) := by
  refine ⟨fun args w => by rw [hP]; exact hcf args w, ?_⟩
  intro ρ pr w hpr hmn hw hex hwf
  rw [hP]
  have lN : ¬ pr N := hmn _ ((hmk _).2 rfl)
  have lz := hpr z hE
  have hnl0 : (ρ z).nl = none := Decidable.byContradiction fun hd => by have := (hw.hp z _ _ _ lz hz).non hd; cases this
  have hzl : deadE (ρ z) (zD en z) = false := (deadE_of hz).2 ⟨(show (49 : Nat) ≠ DEAD by decide), hnl0⟩
  have e0 := (hw.hp z _ _ _ lz hz).heap ⟨(show (49 : Nat) ≠ DEAD by decide), hnl0⟩
  obtain ⟨o1, o2, o3⟩ := hw.ho z _ _ _ lz hz
  have hbw : base ≤ w.heap.size := Nat.le_trans hbase hw.up.size
  have hzm := hw.mu z _ _ lz hz
  have hbg : base ≤ (ρ z).blk := hzm.elim (hS _) (Nat.le_trans hbase)
  have hblk : Blk w (ρ z).blk 49 (woA (vS.den ρ) X now c most i is) := by
    unfold Blk
    rw [e0, o2, o3]
    simp only [List.nil_append, List.append_nil]
    rfl
  have how : OwnI base w (vS.den ρ) X.items := by
    rcases hd with ⟨⟨p, rfl⟩, hx⟩ | ⟨d, rfl, hd0, hd⟩
    · exact .inl ⟨p, rfl, hx⟩
    · exact own_of hw ((hw.hp z _ _ _ lz hz).wf (.rw d X.items.length) (List.mem_cons_self ..)) hd
  have hoff : ∀ q, pr q → (∀ n, vS ≠ .rw q n) → deadE (ρ q) (zD en q) = false → oB (vS.den ρ) ≠ some (ρ q).blk := by
    intro q hq hv hl
    rcases hd with ⟨⟨p, rfl⟩, hx⟩ | ⟨d, rfl, hd0, hd⟩
    · rw [show (SC.v (.slice p 0 0)).den ρ = .slice p 0 0 from rfl, oB_nil]; exact fun h => nomatch h
    · have ld : pr d := (hw.hp z _ _ _ lz hz).wf (.rw d X.items.length) (List.mem_cons_self ..)
      exact row_off hw ld hd hq (fun h => hv _ (by rw [h])) hl
  have hown : ∀ k, oB (vS.den ρ) = some k → C.S k ∨ C.w0.heap.size ≤ k := by
    intro k hk
    rcases hd with ⟨⟨p, rfl⟩, hx⟩ | ⟨d, rfl, hd0, hd⟩
    · rw [show (SC.v (.slice p 0 0)).den ρ = .slice p 0 0 from rfl, oB_nil] at hk; cases hk
    · have ld : pr d := (hw.hp z _ _ _ lz hz).wf (.rw d X.items.length) (List.mem_cons_self ..)
      exact row_mu hw ld hd hk
  have hargs : (List.map (SV.den ρ) [.c (.p z 0)]).toArray = #[.pointer (some ⟨(ρ z).blk, 0, none⟩)] := by simp [SV.den, SC.den, ptrOf, o2]
  rw [hargs]
  refine (hop w (ρ z).blk (vS.den ρ) hw.up hbw ⟨hblk, how, hbg⟩).mono ?_
  rintro e w' ⟨rfl, v', hW, hU, hat⟩
  obtain ⟨r, h1, h2, h3, h4, h5⟩ := row_re hW.own w.heap.size hbw
  obtain ⟨m0, mN, mq⟩ := hm
  have hzN : z ≠ N := fun h => lN (h ▸ lz)
  have hn : updR ρ N r N = r := if_pos rfl
  have hzo : updR ρ N r z = ρ z := if_neg hzN
  have hblk' : Blk w' (ρ z).blk _ _ := hW.blk
  unfold Blk at hblk'
  obtain ⟨k1, k2⟩ := Hw.rebuild (e := rowE base X'.items) (T := S0 (ρ z).blk (vS.den ρ)) r hw lN hn1 hU
    (fun k hk h => by
      rcases h with rfl | h
      · exact hzm.resolve_right (by omega)
      · exact (hown k h).resolve_right (by omega))
    (fun q hq => by
      by_cases hqz : q = z
      · subst hqz
        refine .inr (.inr ⟨_, _, _, _, hz, m0, (show (49 : Nat) ≠ DEAD by decide), ⟨fun _ => ?_, wo_wf (.inr rfl) _ _ _ _ _ _, fun hd => absurd hd (by decide), by rw [hzo]; exact fun h => absurd hnl0 h⟩⟩)
        rw [hzo, o2, o3, List.nil_append, List.append_nil, hblk']
        have hv : v' = rwOf (updR ρ N r N) X'.items.length := by rw [hn]; exact h1.symm
        rw [hv]
        rfl
      · rcases mq q hqz (fun h => lN (h ▸ hq)) with ⟨k1, k2⟩ | ⟨_, e, k2, k3⟩
        · refine .inl ⟨k2, fun hl h => ?_⟩
          rcases h with h | h
          · exact hqz (hw.inj q z hq lz hl hzl h)
          · exact hoff q hq k1 hl h
        · exact .inr (.inl ⟨e, k2, k3⟩))
    mN (he_row (C := C) h3) ⟨by rw [h5]; rfl, h2⟩
    (fun hr q hq hl hb => by
      have ho := (h3 hr).1
      by_cases hqz : q = z
      · subst hqz
        exact own_ne hW.blk hW.own (by decide) (by rw [ho, hb])
      · rcases mq q hqz (fun h => lN (h ▸ hq)) with ⟨k1, k2⟩ | ⟨_, e, k2, k3⟩
        · rw [k2] at hl
          rcases hat _ ho with h | h
          · exact hoff q hq k1 hl (by rw [h, hb])
          · have := hw.lt hq hl; omega
        · rw [k3] at hl; exact absurd hl (by simp [deadOf, deadE]))
    (fun _ => by
      cases hr : r.nl with
      | none =>
        rcases hat _ (h3 hr).1 with h | h
        · exact hown _ h
        · exact .inr (Nat.le_trans hw.up.size h)
      | some p => rw [h4 (by rw [hr]; simp)]; exact .inr hw.up.size)
  have hsame : (fun q => pr q ∨ mk q) = fun q => pr q ∨ q = N := funext fun q => propext (or_congr_right (hmk q))
  rw [hsame]
  refine ⟨_, k1, rfl, ?_, k2, fun q hq' => ?_⟩
  · intro y hy
    simp only [anS, List.mem_cons, List.not_mem_nil, or_false] at hy
    rcases hy with rfl | rfl | rfl | rfl | rfl | rfl | rfl | rfl | rfl | rfl | rfl | rfl | rfl <;> trivial
  · rw [(hmk q).1 hq', mN]; exact fun h => nomatch h
end Go.Proofs.YtfmpdbngpknmaaaDoor
/- Apply, by the symbolic walk. -/
namespace Go.Proofs.YtfmpdbngpknmaaaDoor
set_option linter.unusedSimpArgs false
set_option linter.unusedVariables false
open Go.RowKit

def cdS (c : Cd) : List SC := [.i .i64 c.op, .i .i64 c.mode, .s c.key, .s c.val, .i .u32 c.flags, .i .i64 c.exp, .b c.hasExp, .i .u64 c.cas, .b c.hasCas, .i .u64 c.delta, .i .u64 c.init, .b c.down, .b c.viv, .i .i64 c.vive, .i .i64 c.recache, .b c.inval]
def rowMay : List SV → Option (Prop × SV)
  | [.g [.i .i64 op, .i .i64 mode, .s key, .s val, .i .u32 flags, .i .i64 exp, .b hasExp, .i .u64 cas, .b hasCas, .i .u64 delta, .i .u64 init, .b down, .b viv, .i .i64 vive, .i .i64 recache, .b inval]] =>
    some (key.length ≤ 9223372036854775807 ∧ val.length ≤ 9223372036854775807, .c (.b (mayB ⟨op, mode, key, val, flags, exp, hasExp, cas, hasCas, delta, init, down, viv, vive, recache, inval⟩)))
  | _ => none
def rowFind (base : Nat) (xs : List It) (en : List EN) : List SV → Option (Prop × SV)
  | [.c (.rw d n), .c (.s k)] => match zD en d with
    | some ⟨(t, off, I), [], _⟩ => some (t = 31 ∧ off = 0 ∧ I = rowI base xs ∧ n = xs.length ∧ Sorted xs ∧ xs.length ≤ 1000000000, .t [.c (.i .i64 (atF xs k)), .c (.b (isF xs k))])
    | _ => none
  | [.c (.v (.slice none 0 0)), .c (.s k)] => some (xs = [], .t [.c (.i .i64 (atF xs k)), .c (.b (isF xs k))])
  | _ => none
theorem own_hp {ρ : Nat → RE} {pr : Nat → Prop} {en : List EN} {w : World} {base : Nat} {xs : List It} {d : Nat} {mu : Bool} (hp : Hp ρ pr en w) (ho : Ho ρ pr en) (ld : pr d) (hd : zD en d = some ⟨(31, 0, rowI base xs), [], mu⟩) : OwnI base w (rwOf (ρ d) xs.length) xs := by
  obtain ⟨h0, h1⟩ := ho d _ _ _ ld hd
  cases hnl : (ρ d).nl with
  | none =>
    rcases h1 with ⟨_, q1, qc, q2, q3, R, q4, q5⟩ | ⟨hn, _⟩
    · refine .inr ⟨_, _, R, rwOf_on hnl _, q1, qc, ?_, q5, q2⟩
      rw [(hp d _ _ _ ld hd).heap ⟨(show (31 : Nat) ≠ DEAD by decide), hnl⟩, q3, q4]
      rfl
    · exact absurd hnl hn
  | some p =>
    rcases h1 with ⟨hn, _⟩ | ⟨_, hx, _⟩
    · rw [hnl] at hn; cases hn
    · exact .inl ⟨p, by rw [rwOf_off hnl, hx]; rfl, hx⟩
/-- what Apply calls -/
def mCA (base : Nat) (xs : List It) : Ctr := fun f en args => match f with
  | 15 => rowMay args
  | 19 => rowFind base xs en args
  | _ => mC1 f en args
theorem mCA_ok {C : Cx} (base : Nat) (ys : List It) (hP : C.P = Tryd.prog) : CtrOk C (mCA base ys) := by
  intro f en xs p v h hp ρ w hup hHp hHo hinj hwf
  unfold mCA at h
  split at h
  · rw [hP]
    unfold rowMay at h
    split at h <;> simp only [Option.some.injEq, Prod.mk.injEq, reduceCtorEq] at h
    obtain ⟨rfl, rfl⟩ := h
    exact ⟨fun args w => Tryd.call15 args w, trivial, may _ hp.1 hp.2 w⟩
  · rw [hP]
    refine ⟨fun args w => Tryd.call19 args w, ?_⟩
    unfold rowFind at h
    split at h
    · rename_i d n k
      split at h <;> simp only [Option.some.injEq, Prod.mk.injEq, reduceCtorEq] at h
      rename_i t off I mu hd
      obtain ⟨rfl, rfl⟩ := h
      obtain ⟨rfl, rfl, rfl, rfl, hs, hl⟩ := hp
      refine ⟨by intro x hx; simp at hx; rcases hx with rfl | rfl <;> trivial, ?_⟩
      have ld : d < en.length := hwf (.c (.rw d ys.length)) (List.mem_cons_self ..)
      exact find_op base _ ys k w (own_hp hHp hHo ld hd) hs hl
    · simp only [Option.some.injEq, Prod.mk.injEq] at h
      obtain ⟨rfl, rfl⟩ := h
      subst hp
      refine ⟨by intro x hx; simp at hx; rcases hx with rfl | rfl <;> trivial, ?_⟩
      exact find_op 0 _ [] _ w (.inl ⟨none, rfl, rfl⟩) Sorted.nil (by simp)
    · cases h
  · exact mC1_ok hP f en xs p v h hp ρ w hup hHp hHo hinj hwf

/-- the entry of items that are only read -/
def srcE (xs : List It) : EN := ⟨(31, 0, rowI 0 xs), [], false⟩
theorem src_at {w : World} {v : Value} {xs : List It} (ho : OwnI 0 w v xs) : ∃ ρ : Nat → RE, At Non ρ [srcE xs] w ∧ rwOf (ρ 0) xs.length = v := by
  obtain ⟨r, h1, h2, h3, h4, h5⟩ := row_re ho 0 (Nat.le_refl _)
  refine ⟨fun _ => r, ⟨?_, ?_, ?_, ?_⟩, h1⟩
  · intro q ty cells mu hq he
    obtain rfl : q = 0 := by simp at hq; omega
    simp only [zD, Option.some.injEq, srcE, EN.mk.injEq] at he
    obtain ⟨rfl, rfl, rfl⟩ := he
    exact ⟨fun hl => by rw [(h3 hl.2).2]; simp [dens], (fun y hy => nomatch hy), fun hd => absurd (show (31 : Nat) = DEAD from hd) (by decide), fun _ => rfl⟩
  · intro q ty cells mu hq he
    obtain rfl : q = 0 := by simp at hq; omega
    simp only [zD, Option.some.injEq, srcE, EN.mk.injEq] at he
    obtain ⟨rfl, rfl, rfl⟩ := he
    exact ⟨by rw [h5]; rfl, h2⟩
  · intro q d hq hd _ _ _; simp at hq hd; omega
  · intro q ty cells hq he
    obtain rfl : q = 0 := by simp at hq; omega
    simp only [zD, Option.some.injEq, srcE, EN.mk.injEq] at he
    exact absurd he.2.2 (by decide)

/-- what Apply answers -/
def AppR (Y : St × An) (w : World) (e : Ending) (w' : World) : Prop :=
  ∃ v', e = .returned (.tuple #[.agg #[v', .int .u64 Y.1.cas, .int .i64 Y.1.flush], .agg (anA Y.2)]) ∧ OwnI w.heap.size w' v' Y.1.items ∧ Below w.heap.size w w'
theorem appFin {C : Cx} {fn : Func} {Y : St × An} {w : World} {ρ : Nat → RE} {kp : List Nat} {rs : List ResultVar} {en : List EN} {n d : Nat} {v' : SV}
    (hC : C = zL Tryd.prog fn (AppR Y w) Non w ρ n kp) (hrs : fn.results.toList = rs) (hd : zD en d = some (rowE w.heap.size Y.1.items)) (hv : v' = .t [.g [.rw d Y.1.items.length, .i .u64 Y.1.cas, .i .i64 Y.1.flush], .g (anS Y.2)]) : Fin C rs v' en := by
  subst hC
  subst hv
  refine Fin_of ctx_of hrs fun ρ' w' hw _ _ => ?_
  have ld : d < en.length := by rw [nthS_eq] at hd; exact (List.getElem?_eq_some_iff.1 hd).1
  exact ⟨_, rfl, own_of hw ld hd, hw.up.to_below⟩
theorem appFin0 {C : Cx} {fn : Func} {Y : St × An} {w : World} {ρ : Nat → RE} {kp : List Nat} {rs : List ResultVar} {en : List EN} {n : Nat} {v' : SV}
    (hC : C = zL Tryd.prog fn (AppR Y w) Non w ρ n kp) (hrs : fn.results.toList = rs) (hx : Y.1.items = []) (hv : v' = .t [.g [.v (.slice none 0 0), .i .u64 Y.1.cas, .i .i64 Y.1.flush], .g (anS Y.2)]) : Fin C rs v' en := by
  subst hC
  subst hv
  refine Fin_of ctx_of hrs fun ρ' w' hw _ _ => ?_
  exact ⟨_, rfl, .inl ⟨none, rfl, hx⟩, hw.up.to_below⟩
end Go.Proofs.YtfmpdbngpknmaaaDoor
/- The calls that Apply makes, met in regions that follow the text. -/
namespace Go.Proofs.YtfmpdbngpknmaaaDoor
set_option linter.unusedSimpArgs false
set_option linter.unusedVariables false
open Go.RowKit

theorem nth_snoc {en : List EN} {e : EN} : zD (zF en e) (zG en) = some e := by rw [nthS_eq, snoc_eq, lenN_eq]; simp
theorem nth_snoc_ne {en : List EN} {e : EN} {q : Nat} (h : q ≠ zG en) : zD (zF en e) q = zD en q := by
  rw [nthS_eq, nthS_eq, snoc_eq]
  rw [lenN_eq] at h
  rcases Nat.lt_or_ge q en.length with hl | hl
  · rw [List.getElem?_append_left hl]
  · rw [List.getElem?_eq_none hl, List.getElem?_eq_none (by simp; omega)]
theorem nth_lt {en : List EN} {e : EN} {q : Nat} (h : zD en q = some e) : q < zG en := by rw [nthS_eq] at h; rw [lenN_eq]; exact (List.getElem?_eq_some_iff.1 h).1
theorem nth_set {en : List EN} {e x : EN} {q : Nat} (h : zD en q = some e) : zD (zE en q x) q = some x := by
  rw [nthS_eq] at h
  rw [nthS_eq, setN_eq, List.getElem?_set_self (List.getElem?_eq_some_iff.1 h).1]
theorem nth_set_ne {en : List EN} {x : EN} {q d : Nat} (h : q ≠ d) : zD (zE en d x) q = zD en q := by
  rw [nthS_eq, nthS_eq, setN_eq, List.getElem?_set_ne (fun e => h e.symm)]
theorem len_set {en : List EN} {x : EN} {d : Nat} : zG (zE en d x) = zG en := by rw [lenN_eq, lenN_eq, setN_eq]; simp
theorem len_snoc {en : List EN} {x : EN} : zG (zF en x) = zG en + 1 := by rw [lenN_eq, lenN_eq, snoc_eq]; simp
theorem mk_new {n : Nat} {en : List EN} (h : zG en = n + 1) (q : Nat) : (n ≤ q ∧ q < zG en) ↔ q = n := by rw [h]; omega

variable {C : Cx} {nt : Nat} {sl : List (Nat × SV)} {k : List KI} {dst : Option Nat} {args : Array Operand} {tys : Array TypeId} {ty : TypeId} {pos : String} {af : Array Edge} {all r : List Oper} {en : List EN}
theorem Run_clone {b base d : Nat} {xs : List It} {mu : Bool} (hP : C.P = Tryd.prog) (hd : zD en d = some ⟨(31, 0, rowI b xs), [], mu⟩) (hbase : base ≤ C.w0.heap.size) (hn1 : C.n0 ≤ zG en) (hn : xs.length ≤ 1000000000) (hxs : qw sl args.toList = some [.c (.rw d xs.length)]) (hdst : ∀ d, dst = some d → d < nt)
    (hK : Run C (.ops all r :: k) nt (jN dst (.c (.rw (zG en) xs.length)) sl) (zF en (rowE base xs))) :
    Run C (.ops all (⟨dst, .call ⟨.value (.func 17), args, tys⟩, ty, pos, af, none⟩ :: r) :: k) nt sl en := by
  refine Run_hcall hxs _ _ ?_ (by rw [len_snoc]; omega) hdst hK
  exact clone_h hP hd hbase hn1 hn (nth_lt hd) (mk_new len_snoc) nth_snoc (fun q hq => nth_snoc_ne hq)
theorem Run_gone {base d y : Nat} {xs : List It} {now : Int} {t : TypeId × Nat × (RE → Prop)} {mu : Bool} (hP : C.P = Tryd.prog) (hd : zD en d = some (rowE base xs)) (hy : zD en y = some ⟨t, [.i .i64 now], mu⟩) (hyo : t.2.1 = 0) (hyd : y ≠ d) (hbase : base ≤ C.w0.heap.size) (hn1 : C.n0 ≤ zG en) (hn : xs.length ≤ 1000000000) (hxs : qw sl args.toList = some [.c (.rw d xs.length), .c (.f (.func 18) [(y, 0)])]) (hdst : ∀ d, dst = some d → d < nt)
    (hK : Run C (.ops all r :: k) nt (jN dst (.c (.rw (zG en) (xs.filter fun x => !goneB now x).length)) sl) (zF (zE en d (deadOf (rowE base xs))) (rowE base (xs.filter fun x => !goneB now x)))) :
    Run C (.ops all (⟨dst, .call ⟨.value (.func 16), args, tys⟩, ty, pos, af, none⟩ :: r) :: k) nt sl en := by
  refine Run_hcall hxs _ _ ?_ (by rw [len_snoc, len_set]; omega) hdst hK
  refine gone_h hP hd hy hyo hyd hbase hn1 hn (nth_lt hd) (nth_lt hy) (mk_new (by rw [len_snoc, len_set])) ⟨?_, fun q hq => ?_⟩
  · rw [← len_set (d := d) (x := deadOf (rowE base xs))]; exact nth_snoc
  · by_cases hqd : q = d
    · subst hqd
      refine .inr ⟨rfl, _, hd, ?_⟩
      rw [nth_snoc_ne (by rw [len_set]; exact hq), nth_set hd]
    · refine .inl ⟨hqd, ?_⟩
      rw [nth_snoc_ne (by rw [len_set]; exact hq), nth_set_ne hqd]
theorem Run_op {f : FuncId} {base z d : Nat} {X X' : St} {now : Int} {c : Cd} {most : Int} {i : Nat} {is : Bool} {an : An} (hP : C.P = Tryd.prog) (hcf : ∀ args w, (callFunc f args).run Tryd.prog w = .ok (.enter f args) w)
    (hz : zD en z = some (woE (.rw d X.items.length) X now c most i is)) (hd : zD en d = some (rowE base X.items)) (hdz : d ≠ z) (hbase : base ≤ C.w0.heap.size) (hS : ∀ k, C.S k → base ≤ k) (hn1 : C.n0 ≤ zG en)
    (hop : ∀ w g v, Upd C.S C.w0 w → base ≤ w.heap.size → WS base w g v X now c most i is → Calls Tryd.prog f #[.pointer (some ⟨g, 0, none⟩)] w (OpR base g v X' now c most i is an w))
    (hxs : qw sl args.toList = some [.c (.p z 0)]) (hdst : ∀ d, dst = some d → d < nt)
    (hK : Run C (.ops all r :: k) nt (jN dst (.g (anS an)) sl) (zF (zE (zE en d (deadOf (rowE base X.items))) z (woE (.rw (zG en) X'.items.length) X' now c most i is)) (rowE base X'.items))) :
    Run C (.ops all (⟨dst, .call ⟨.value (.func f), args, tys⟩, ty, pos, af, none⟩ :: r) :: k) nt sl en := by
  refine Run_hcall hxs _ _ ?_ (by rw [len_snoc, len_set, len_set]; omega) hdst hK
  have hzN : z ≠ zG en := by have := nth_lt hz; omega
  refine op_h hP hcf hz (.inr ⟨d, rfl, hdz, hd⟩) hbase hS hn1 (nth_lt hz) (mk_new (by rw [len_snoc, len_set, len_set])) hop ⟨?_, ?_, fun q hqz hq => ?_⟩
  · rw [nth_snoc_ne (by rw [len_set, len_set]; exact hzN)]
    exact nth_set (by rw [nth_set_ne (fun h => hdz h.symm)]; exact hz)
  · have := nth_snoc (en := zE (zE en d (deadOf (rowE base X.items))) z (woE (.rw (zG en) X'.items.length) X' now c most i is)) (e := rowE base X'.items)
    rw [len_set, len_set] at this
    exact this
  · rw [nth_snoc_ne (by rw [len_set, len_set]; exact hq), nth_set_ne hqz]
    by_cases hqd : q = d
    · subst hqd
      exact .inr ⟨⟨_, rfl⟩, _, hd, nth_set hd⟩
    · exact .inl ⟨fun n h => hqd (by injection h with h; exact h.symm), nth_set_ne hqd⟩
theorem Run_op0 {f : FuncId} {base z : Nat} {p : Option Addr} {X X' : St} {now : Int} {c : Cd} {most : Int} {i : Nat} {is : Bool} {an : An} (hP : C.P = Tryd.prog) (hcf : ∀ args w, (callFunc f args).run Tryd.prog w = .ok (.enter f args) w)
    (hz : zD en z = some (woE (.v (.slice p 0 0)) X now c most i is)) (hx : X.items = []) (hbase : base ≤ C.w0.heap.size) (hS : ∀ k, C.S k → base ≤ k) (hn1 : C.n0 ≤ zG en)
    (hop : ∀ w g v, Upd C.S C.w0 w → base ≤ w.heap.size → WS base w g v X now c most i is → Calls Tryd.prog f #[.pointer (some ⟨g, 0, none⟩)] w (OpR base g v X' now c most i is an w))
    (hxs : qw sl args.toList = some [.c (.p z 0)]) (hdst : ∀ d, dst = some d → d < nt)
    (hK : Run C (.ops all r :: k) nt (jN dst (.g (anS an)) sl) (zF (zE en z (woE (.rw (zG en) X'.items.length) X' now c most i is)) (rowE base X'.items))) :
    Run C (.ops all (⟨dst, .call ⟨.value (.func f), args, tys⟩, ty, pos, af, none⟩ :: r) :: k) nt sl en := by
  refine Run_hcall hxs _ _ ?_ (by rw [len_snoc, len_set]; omega) hdst hK
  have hzN : z ≠ zG en := by have := nth_lt hz; omega
  refine op_h hP hcf hz (.inl ⟨⟨p, rfl⟩, hx⟩) hbase hS hn1 (nth_lt hz) (mk_new (by rw [len_snoc, len_set])) hop ⟨?_, ?_, fun q hqz hq => ?_⟩
  · rw [nth_snoc_ne (by rw [len_set]; exact hzN)]
    exact nth_set hz
  · have := nth_snoc (en := zE en z (woE (.rw (zG en) X'.items.length) X' now c most i is)) (e := rowE base X'.items)
    rw [len_set] at this
    exact this
  · rw [nth_snoc_ne (by rw [len_set]; exact hq), nth_set_ne hqz]
    exact .inl ⟨(fun n h => by cases h), rfl⟩
end Go.Proofs.YtfmpdbngpknmaaaDoor
/- A row of items seen around one of them. -/
namespace Go.Proofs.YtfmpdbngpknmaaaDoor
set_option linter.unusedSimpArgs false
set_option linter.unusedVariables false
open Go.RowKit

/-- no pointer into entry d -/
def noPC (d : Nat) : SC → Bool
  | .p c _ => !(c == d)
  | .sl c _ _ _ => !(c == d)
  | .f _ cap => cap.all fun x => !(x.1 == d)
  | _ => true
def noPL (d : Nat) (l : List SC) : Bool := l.all (noPC d)
def noPT (d : Nat) : TE → Bool
  | .c x => noPC d x
  | .g l => noPL d l
def noPV (d : Nat) : SV → Bool
  | .c x => noPC d x
  | .g l => noPL d l
  | .t l => l.all (noPT d)
def noPS (d : Nat) (sl : List (Nat × SV)) : Bool := sl.all fun x => noPV d x.2
def noPE (d : Nat) (en : List EN) : Bool := en.all fun e => noPL d e.cells
theorem noPC_den {ρ ρ' : Nat → RE} {d : Nat} (h1 : ∀ c, c ≠ d → ρ' c = ρ c) (h2 : ∀ n, rwOf (ρ' d) n = rwOf (ρ d) n) {x : SC} (h : noPC d x = true) : x.den ρ' = x.den ρ := by
  cases x with
  | p c o => simp only [noPC, Bool.not_eq_true', beq_eq_false_iff_ne] at h; simp only [SC.den, ptrOf, h1 c h]
  | sl c o n m => simp only [noPC, Bool.not_eq_true', beq_eq_false_iff_ne] at h; simp only [SC.den, h1 c h]
  | rw c n =>
    simp only [SC.den]
    by_cases hc : c = d
    · subst hc; exact h2 n
    · rw [h1 c hc]
  | f fn cap =>
    simp only [noPC, List.all_eq_true, Bool.not_eq_true', beq_eq_false_iff_ne] at h
    simp only [SC.den]
    congr 2
    exact List.map_congr_left fun y hy => by simp only [ptrOf, h1 y.1 (h y hy)]
  | _ => rfl
theorem noPL_den {ρ ρ' : Nat → RE} {d : Nat} (h1 : ∀ c, c ≠ d → ρ' c = ρ c) (h2 : ∀ n, rwOf (ρ' d) n = rwOf (ρ d) n) {l : List SC} (h : noPL d l = true) : dens ρ' l = dens ρ l :=
  List.map_congr_left fun y hy => noPC_den h1 h2 (List.all_eq_true.1 h y hy)
theorem noPV_den {ρ ρ' : Nat → RE} {d : Nat} (h1 : ∀ c, c ≠ d → ρ' c = ρ c) (h2 : ∀ n, rwOf (ρ' d) n = rwOf (ρ d) n) {x : SV} (h : noPV d x = true) : x.den ρ' = x.den ρ := by
  cases x with
  | c x => exact noPC_den h1 h2 h
  | g l => simp only [SV.den, noPL_den h1 h2 h]
  | t l =>
    simp only [SV.den]
    congr 2
    refine List.map_congr_left fun y hy => ?_
    have := List.all_eq_true.1 h y hy
    cases y with
    | c x => exact noPC_den h1 h2 this
    | g l => simp only [TE.den, noPL_den h1 h2 this]
variable {C : Cx} {nt : Nat} {sl : List (Nat × SV)} {k : List KI} {en : List EN}
theorem noPS_get {d : Nat} : ∀ {sl : List (Nat × SV)}, noPS d sl = true → ∀ {t : Nat} {v : SV}, qy sl t = some v → noPV d v = true
  | [], _, t, v, h => by simp [qy] at h
  | (a, b) :: sl, hs, t, v, h => by
    simp only [noPS, List.all_cons, Bool.and_eq_true] at hs
    simp only [qy] at h
    split at h
    · cases h; exact hs.1
    · exact noPS_get hs.2 h
theorem Run_win {base d : Nat} {xs : List It} {i : Nat} {x : It} (hd : zD en d = some (rowE base xs)) (hx : xs[i]? = some x) (hn0 : C.n0 ≤ d) (hno : noPS d sl = true) (hne : noPE d en = true) (h : Run C k nt sl (zE en d (winE base xs i x))) : Run C k nt sl en := by
  intro ρ a w hr
  have ld : d < en.length := by rw [nthS_eq] at hd; exact (List.getElem?_eq_some_iff.1 hd).1
  obtain ⟨h0, h1⟩ := hr.hw.ho d _ _ _ ld hd
  rcases h1 with ⟨hnl, q1, qc, q2, q3, R, q4, q5⟩ | ⟨_, h1, _⟩
  case inr => rw [h1] at hx; simp at hx
  have hil := (List.getElem?_eq_some_iff.1 hx).1
  have hheap := (hr.hw.hp d _ _ _ ld hd).heap ⟨(show (31 : Nat) ≠ DEAD by decide), hnl⟩
  obtain ⟨r, hrr⟩ : ∃ r : RE, r = ⟨(ρ d).blk, flat (xs.take i), flat (xs.drop (i + 1)) ++ R, (ρ d).cap, none⟩ := ⟨_, rfl⟩
  have hnr : updR ρ d r d = r := if_pos rfl
  have ho : ∀ c, c ≠ d → updR ρ d r c = ρ c := fun c hc => if_neg hc
  have hrw : ∀ n, rwOf (updR ρ d r d) n = rwOf (ρ d) n := fun n => by rw [hnr, hrr, rwOf_on hnl]; rfl
  have hblk : ∀ c, (updR ρ d r c).blk = (ρ c).blk := fun c => by
    by_cases hc : c = d
    · subst hc; rw [hnr, hrr]
    · rw [ho c hc]
  have hnlc : ∀ c, (updR ρ d r c).nl = (ρ c).nl := fun c => by
    by_cases hc : c = d
    · subst hc; rw [hnr, hrr, hnl]
    · rw [ho c hc]
  have hlen : (zE en d (winE base xs i x)).length = en.length := setN_len _ _ _
  have hcase : ∀ q ty cells mu, zD (zE en d (winE base xs i x)) q = some ⟨ty, cells, mu⟩ → (q = d ∧ (⟨ty, cells, mu⟩ : EN) = winE base xs i x) ∨ (q ≠ d ∧ zD en q = some ⟨ty, cells, mu⟩) := by
    intro q ty cells mu hq
    by_cases hqd : q = d
    · subst hqd
      rw [nth_set hd] at hq
      exact .inl ⟨rfl, (Option.some.inj hq).symm⟩
    · rw [nth_set_ne hqd] at hq
      exact .inr ⟨hqd, hq⟩
  have hlv : ∀ q, deadE (updR ρ d r q) (zD (zE en d (winE base xs i x)) q) = false → deadE (ρ q) (zD en q) = false := by
    intro q hq
    by_cases hqd : q = d
    · subst hqd; exact (deadE_of hd).2 ⟨(show (31 : Nat) ≠ DEAD by decide), hnl⟩
    · rw [nth_set_ne hqd, ho q hqd] at hq; exact hq
  refine h (updR ρ d r) a w ⟨⟨?_, ?_, ?_, hr.hw.up, ?_, ?_⟩, ?_, hr.sz, hr.df, by rw [hlen]; exact hr.n0⟩
  · intro q ty cells mu hq he
    rw [hlen] at hq ⊢
    rcases hcase q ty cells mu he with ⟨rfl, he2⟩ | ⟨hqd, he⟩
    · clear he
      simp only [winE, EN.mk.injEq] at he2
      obtain ⟨rfl, rfl, rfl⟩ := he2
      refine ⟨fun _ => ?_, ?_, fun hd => absurd (show (31 : Nat) = DEAD from hd) (by decide), by rw [hnlc, hnl]; exact fun h => absurd rfl h⟩
      · rw [hblk, hheap, q3, q4, hnr, hrr]
        show some (Obj.cells ([] ++ dens ρ [] ++ (flat xs ++ R)).toArray _ _) = _
        rw [← win_flat hx]
        simp only [dens, List.map_nil, List.nil_append, List.append_assoc]
        rfl
      · intro y hy
        simp only [itS, List.mem_cons, List.not_mem_nil, or_false] at hy
        rcases hy with rfl | rfl | rfl | rfl | rfl | rfl | rfl | rfl <;> trivial
    · have hp := hr.hw.hp q ty cells mu hq he
      have hnp : noPL d cells = true := by
        rw [nthS_eq] at he
        exact List.all_eq_true.1 hne _ (List.mem_of_getElem? he)
      refine ⟨fun hl => ?_, hp.wf, hp.dead, by rw [ho q hqd]; exact hp.non⟩
      rw [ho q hqd] at hl ⊢
      rw [noPL_den ho hrw hnp]
      exact hp.heap hl
  · intro q ty cells mu hq he
    rw [hlen] at hq
    rcases hcase q ty cells mu he with ⟨rfl, he2⟩ | ⟨hqd, he⟩
    · clear he
      simp only [winE, EN.mk.injEq] at he2
      obtain ⟨rfl, rfl, rfl⟩ := he2
      rw [hnr, hrr]
      exact ⟨by show (flat (xs.take i)).length = _; rw [flat_len, List.length_take, Nat.min_eq_left (by omega)], q1, qc, q2, rfl, R, rfl, q5⟩
    · rw [ho q hqd]; exact hr.hw.ho q ty cells mu hq he
  · intro q c hq hc hql hcl hb
    rw [hlen] at hq hc
    rw [hblk, hblk] at hb
    exact hr.hw.inj q c hq hc (hlv q hql) (hlv c hcl) hb
  · intro q ty cells hq he
    rw [hlen] at hq
    rw [hblk]
    rcases hcase q ty cells true he with ⟨rfl, _⟩ | ⟨hqd, he⟩
    · exact hr.hw.mu q _ _ hq hd
    · exact hr.hw.mu q ty cells hq he
  · intro q hq
    rw [ho q (by omega)]; exact hr.hw.ini q hq
  · intro t v ht
    rw [hlen]
    obtain ⟨k1, k2⟩ := hr.tm t v ht
    rw [noPV_den ho hrw (noPS_get hno ht)]
    exact ⟨k1, k2⟩
theorem own_win {C : Cx} {ρ : Nat → RE} {pr : Nat → Prop} {en : List EN} {w : World} {base : Nat} {xs : List It} {d j : Nat} {x : It} (hw : Hw C ρ pr en w) (ld : pr d) (hx : xs[j]? = some x) (hd : zD en d = some (winE base xs j x)) : OwnI base w (rwOf (ρ d) xs.length) xs := by
  have hnl : (ρ d).nl = none := Decidable.byContradiction fun h => by have := (hw.hp d _ _ _ ld hd).non h; cases this
  obtain ⟨_, q1, qc, q2, q3, R, q4, q5⟩ := hw.ho d _ _ _ ld hd
  refine .inr ⟨_, _, R, rwOf_on hnl _, q1, qc, ?_, q5, q2⟩
  rw [(hw.hp d _ _ _ ld hd).heap ⟨(show (31 : Nat) ≠ DEAD by decide), hnl⟩, q3, q4, ← win_flat hx]
  simp only [List.append_assoc]
  rfl
theorem appFinW {C : Cx} {fn : Func} {Y : St × An} {w : World} {ρ : Nat → RE} {kp : List Nat} {rs : List ResultVar} {en : List EN} {n d j : Nat} {x : It} {v' : SV}
    (hC : C = zL Tryd.prog fn (AppR Y w) Non w ρ n kp) (hrs : fn.results.toList = rs) (hx : Y.1.items[j]? = some x) (hd : zD en d = some (winE w.heap.size Y.1.items j x)) (hv : v' = .t [.g [.rw d Y.1.items.length, .i .u64 Y.1.cas, .i .i64 Y.1.flush], .g (anS Y.2)]) : Fin C rs v' en := by
  subst hC
  subst hv
  refine Fin_of ctx_of hrs fun ρ' w' hw _ _ => ?_
  have ld : d < en.length := by rw [nthS_eq] at hd; exact (List.getElem?_eq_some_iff.1 hd).1
  exact ⟨_, rfl, own_win hw ld hx hd, hw.up.to_below⟩
/-- get, whole -/
theorem get_op (base g : Nat) (v : Value) (X : St) (now : Int) (c : Cd) (most : Int) (i : Nat) (is : Bool) (w : World) (h : WS base w g v X now c most i is) (hbase : base ≤ w.heap.size) (hi : i ≤ X.items.length) (his : is = true → i < X.items.length) (hl : X.items.length ≤ 100000000)
    (hn0 : 1 ≤ now) (hn1 : now ≤ 1099511627776) (hxb : ∀ x, X.items[i]? = some x → -4398046511104 ≤ x.exp ∧ x.exp ≤ 4398046511104) :
    Calls Tryd.prog 20 #[.pointer (some ⟨g, 0, none⟩)] w (OpR base g v (getF X now c i is).1 now c most i is (getF X now c i is).2 w) := by
  cases is with
  | false => exact get_no base g v X now c most i w h hbase hi hl hn0 hn1
  | true =>
    have hx := List.getElem?_eq_getElem (his rfl)
    obtain ⟨b0, b1⟩ := hxb _ hx
    have := get_is base g v X now c most i _ w h hx hn0 hn1 b0 b1
    unfold getF
    rw [if_pos rfl, itF_of hx]
    exact this
end Go.Proofs.YtfmpdbngpknmaaaDoor
