/- What the walk of ConnPieces knows of the world: the requests that are kept, as raw places. -/
import Derived.Test.YtehfcboiimdkbaaGreatDoorCClaw
import Derived.Test.YtehfcboiimdkbaaGreatDoorCCarg
import Derived.Test.YtehfcboiimdkbaaGreatDoorCCsame
import Derived.Test.YtehfcboiimdkbaaGreatDoorBC
import Derived.Test.YtehfcboiimdkbaaGreatDoorBM
import Derived.Test.YtehfcboiimdkbaaGreatDoorBB
namespace Go.Proofs.YtehfcboiimdkbaaGreatDoor
set_option linter.unusedSimpArgs false
set_option linter.unusedVariables false
open Go.RowKit
set_option maxRecDepth 100000
theorem infoR : (Tryz.prog.info? 30).map (fun i => (i.zero, i.size, i.bytes)) = some (some (gqA (.slice none 0 0) (.slice none 0 0) Gq.zero), 11, 144) := by kernel_rfl
abbrev LR := List (Gq × RawP)
def gpC (x : Gq × RawP) : List SC := gqP x.1 x.2
theorem gpC_len (x : Gq × RawP) : (gpC x).length = 11 := rfl
theorem gpC_wf (pr : Nat → Prop) : ∀ L : LR, wfs pr (flatG gpC L) := by
  intro L y hy
  simp only [flatG, List.mem_flatMap] at hy
  obtain ⟨x, _, hy⟩ := hy
  exact gqP_wf pr _ _ y hy
theorem dens_gp (ρ ρ' : Nat → RE) (L : LR) : dens ρ (flatG gpC L) = dens ρ' (flatG gpC L) := by
  induction L with
  | nil => rfl
  | cons x L ih =>
    simp only [flatG, List.flatMap_cons, dens, List.map_append] at ih ⊢
    rw [ih]
    rfl
structure PI (W0 : World) (L : LR) (en : List EN) (ρ : Nat → RE) (w : World) : Prop where
  up : Upd Non W0 w
  new : ∀ b, wrB ρ en b → W0.heap.size ≤ b
  raw : ∀ x ∈ L, RawAt w x.1 x.2 ∧ FarP (fun b => wrB ρ en b ∨ w.heap.size ≤ b) x.2
theorem PI.hU {W0 w : World} {L : LR} {en : List EN} {ρ : Nat → RE} (h : PI W0 L en ρ w) {w' : World} (hu : Upd (wrB ρ en) w w') : Upd Non W0 w' :=
  h.up.trans hu fun k hk hs => absurd (h.new k hs) (by omega)
theorem PI.at {W0 w : World} {L : LR} {en : List EN} {ρ : Nat → RE} (h : PI W0 L en ρ w) {w' : World} (hu : Upd (wrB ρ en) w w') {x : Gq × RawP} (hx : x ∈ L) : RawAt w' x.1 x.2 := by
  obtain ⟨h1, h2, h3⟩ := h.raw x hx
  exact h1.upd hu ⟨fun b o e hs => h2 b o e (.inl hs), fun b o e hs => h3 b o e (.inl hs)⟩
theorem PI.step {D : Cx} {W0 w w' : World} {L : LR} {en e en' : List EN} {ρ ρ' ρ'' : Nat → RE} (h : PI W0 L en ρ w) (hS : D.S = wrB ρ en) (hw : D.w0 = w) (hr : Hw D ρ' (· < e.length) e w')
    (hen : ∀ i t cells, zD en' i = some ⟨t, cells, true⟩ → ∃ c cells0, zD e c = some ⟨t, cells0, true⟩ ∧ ρ'' i = ρ' c) : PI W0 L en' ρ'' w' := by
  have hup := hr.up
  rw [hS, hw] at hup
  have hb : ∀ b, wrB ρ'' en' b → wrB ρ en b ∨ w.heap.size ≤ b := by
    rintro b ⟨i, t, cells, hi, rfl⟩
    obtain ⟨c, cells0, hc, hρ⟩ := hen i t cells hi
    rw [hρ]
    have := hr.mu c t cells0 ((by have := nth_lt hc; rwa [lenN_eq] at this)) hc
    rwa [hS, hw] at this
  have hs : W0.heap.size ≤ w.heap.size := h.up.size
  refine ⟨h.hU hup, fun b hb' => ?_, fun x hx => ⟨h.at hup hx, ?_⟩⟩
  · rcases hb b hb' with h1 | h1
    · exact h.new b h1
    · omega
  · obtain ⟨_, h2, h3⟩ := h.raw x hx
    have hz := hup.size
    refine ⟨fun b o e hs => h2 b o e ?_, fun b o e hs => h3 b o e ?_⟩
    · rcases hs with hs | hs
      · exact hb b hs
      · exact .inr (Nat.le_trans hz hs)
    · rcases hs with hs | hs
      · exact hb b hs
      · exact .inr (Nat.le_trans hz hs)
theorem PI.app {W0 w : World} {L : LR} {en : List EN} {ρ : Nat → RE} (h : PI W0 L en ρ w) {x : Gq × RawP} (h1 : RawAt w x.1 x.2) (h2 : FarP (fun b => wrB ρ en b ∨ w.heap.size ≤ b) x.2) : PI W0 (L ++ [x]) en ρ w :=
  ⟨h.up, h.new, fun y hy => by
    rcases List.mem_append.1 hy with hy | hy
    · exact h.raw y hy
    · simp only [List.mem_singleton] at hy; subst hy; exact ⟨h1, h2⟩⟩
theorem RawI.rdU {W0 : World} {a : Option Addr} {n : Nat} (h : RawI W0 a n) {D : Cx} (hU : ∀ w', Upd D.S D.w0 w' → Upd Non W0 w') {k : Nat} (hk : k < n) : ∃ b o z, a = some ⟨b, o, none⟩ ∧ D.rd b (o + k) 1 = some [.i .i64 z] := by
  obtain ⟨b, o, z, ha, hb, hc⟩ := h k hk
  refine ⟨b, o, z, ha, rd_of (vs := [.int .i64 z]) (fun w' hu j v hv => ?_) rfl⟩
  have hj : j = 0 := by have := (List.getElem?_eq_some_iff.1 hv).1; simp at this; exact this
  subst hj
  simp only [List.getElem?_cons_zero, Option.some.injEq] at hv
  rw [← hv, ← hc]
  exact (hU w' hu).cell (p := ⟨b, o + k, none⟩) hb (fun h => h)
def clP (r : Gq) (p : RawP) : Ctr := fun f en xs => match f with
  | 17 => rowSameP r p en xs
  | _ => clC f en xs
theorem clP_ok {C : Cx} {r : Gq} {p : RawP} (hP : C.P = Tryz.prog) (hE : ∀ w, Upd C.S C.w0 w → EnvT w) (hr : ∀ w, Upd C.S C.w0 w → RawAt w r p) : CtrOk C (clP r p) := by
  intro f en xs P v h hp ρ w hup hHp hHo hinj hwf
  unfold clP at h
  split at h
  · rw [hP]
    refine ⟨fun args w => Tryz.call17 args w, ?_⟩
    exact rowSameP_ok h hp hHp hHo (hr w hup)
  · exact clC_ok hP hE f en xs P v h hp ρ w hup hHp hHo hinj hwf
def rwR (L : LR) : EN := rwE 30 11 L.length (flatG gpC L)
def en3 (c d : Cn) (L : LR) : List EN := [cnE c true, cnE d true, rwR L]
structure PJ (W0 : World) (L : LR) (en : List EN) (ρ : Nat → RE) (w : World) : Prop where
  pi : PI W0 L en ρ w
  nl : (ρ 2).nl ≠ none → (ρ 2).blk = (ρ 0).blk
def ix3 (p : Nat) : Nat → Nat := fun i => [0, 1, p].getD i 0
theorem live_cn {E : Cx} {ρ : Nat → RE} {e : List EN} {w : World} (h : Hw E ρ (· < e.length) e w) {i : Nat} {c : Cn} (h0 : zD e i = some (cnE c true)) : deadE (ρ i) (zD e i) = false := by
  obtain ⟨_, _, _, _, k5⟩ := ent_blk h.hp h.ho (by have := nth_lt h0; rwa [lenN_eq] at this) h0 (by decide) (by simp [cnS])
  exact (deadE_of h0).2 ⟨(by show ¬ ((47 : Nat) = DEAD); decide), k5⟩
theorem end3 {E : Cx} {ρ ρ' : Nat → RE} {W0 w w' : World} {a : Act} {nt : Nat} {s sl' : List (Nat × SV)} {e en0 : List EN} {c d : Cn} {L L0 : LR} {p : Nat} (hrep : Rep E ρ' nt s e a w') (hPI : PI W0 L0 en0 ρ w) (hS : E.S = wrB ρ en0) (hw : E.w0 = w)
    (h0 : zD e 0 = some (cnE c true)) (h1 : zD e 1 = some (cnE d true)) (h2 : zD e p = some (rwR L)) (hp : 2 ≤ p) (hs : pkS ρ' (fun i => ρ' (ix3 p i)) 3 s sl') (hnl : (ρ' p).nl ≠ none → (ρ' p).blk = (ρ' 0).blk) :
    Wt E.df (fun i => ρ' (ix3 p i)) nt sl' (en3 c d L) a w' ∧ PJ W0 L0 (en3 c d L) (fun i => ρ' (ix3 p i)) w' := by
  have hget : ∀ i x, zD (en3 c d L) i = some x → zD e (ix3 p i) = some x := by
    intro i x hx
    match i with
    | 0 => simp only [en3, zD, Option.some.injEq] at hx; subst hx; exact h0
    | 1 => simp only [en3, zD, Option.some.injEq] at hx; subst hx; exact h1
    | 2 => simp only [en3, zD, Option.some.injEq] at hx; subst hx; exact h2
    | i + 3 => simp [en3, zD] at hx
  refine ⟨?_, ⟨hPI.step hS hw hrep.hw fun i t cells hi => ⟨ix3 p i, cells, hget i _ hi, rfl⟩, hnl⟩⟩
  refine hrep.wt.pick [0, 1, p] rfl ?_ ?_ (fun x v' hx => pkS_get hs x v' hx)
  · intro i hi j hj hij
    simp only [List.length_cons, List.length_nil] at hi hj
    match i, j with
    | 0, 0 => rfl
    | 1, 1 => rfl
    | 2, 2 => rfl
    | 0, 1 => simp at hij
    | 1, 0 => simp at hij
    | 0, 2 => simp at hij; omega
    | 2, 0 => simp at hij; omega
    | 1, 2 => simp at hij; omega
    | 2, 1 => simp at hij; omega
    | i + 3, _ => omega
    | _, j + 3 => omega
  · intro i t cells mu hi
    refine ⟨cells, hget i _ hi, ?_, ?_⟩
    · match i with
      | 0 => simp only [en3, zD, cnE, Option.some.injEq, EN.mk.injEq] at hi; obtain ⟨_, rfl, _⟩ := hi; rfl
      | 1 => simp only [en3, zD, cnE, Option.some.injEq, EN.mk.injEq] at hi; obtain ⟨_, rfl, _⟩ := hi; rfl
      | 2 => simp only [en3, zD, rwR, rwE, Option.some.injEq, EN.mk.injEq] at hi; obtain ⟨_, rfl, _⟩ := hi; exact dens_gp _ _ L
      | i + 3 => simp [en3, zD] at hi
    · match i with
      | 0 => simp only [en3, zD, cnE, Option.some.injEq, EN.mk.injEq] at hi; obtain ⟨_, rfl, _⟩ := hi; exact cn_wf _ _
      | 1 => simp only [en3, zD, cnE, Option.some.injEq, EN.mk.injEq] at hi; obtain ⟨_, rfl, _⟩ := hi; exact cn_wf _ _
      | 2 => simp only [en3, zD, rwR, rwE, Option.some.injEq, EN.mk.injEq] at hi; obtain ⟨_, rfl, _⟩ := hi; exact gpC_wf _ L
      | i + 3 => simp [en3, zD] at hi
theorem raw_new {E : Cx} {ρ' : Nat → RE} {w' : World} {e : List EN} {c d : Cn} {L : LR} {r : Gq} {N p : Nat} (hw : Hw E ρ' (· < e.length) e w')
    (h0 : zD e 0 = some (cnE c true)) (h1 : zD e 1 = some (cnE d true)) (h2 : zD e p = some (rwR L)) (h3 : zD e N = some (cmG r)) (h4 : zD e (N + 1) = some (flG r)) (hp : 2 ≤ p) (hpN : p < N) (hnl : (ρ' p).nl ≠ none → (ρ' p).blk = (ρ' 0).blk) :
    ∃ x : RawP, RawAt w' r x ∧ dens ρ' (gqP r x) = dens ρ' (gqZ r N) ∧ FarP (fun b => wrB (fun i => ρ' (ix3 p i)) (en3 c d L) b ∨ w'.heap.size ≤ b) x := by
  have hlt : ∀ {i x}, zD e i = some x → i < e.length := fun h => by have := nth_lt h; rwa [lenN_eq] at this
  obtain ⟨x, g1, g2, g3, g4⟩ := gqP_of hw.hp hw.ho h3 h4
  have far : ∀ M x, M ≠ 0 → M ≠ 1 → M ≠ p → zD e M = some x → x.ty.1 ≠ DEAD → (ρ' M).nl = none → ∀ b, (ρ' M).blk = b → ¬ (wrB (fun i => ρ' (ix3 p i)) (en3 c d L) b ∨ w'.heap.size ≤ b) := by
    intro M x m0 m1 mp hx ht hnlM b hb hh
    have lM : deadE (ρ' M) (zD e M) = false := by obtain ⟨t, cs, mu⟩ := x; exact (deadE_of hx).2 ⟨ht, hnlM⟩
    rcases hh with ⟨i, t, cells, hi, hbi⟩ | hh
    · have e0 : (ρ' 0).blk ≠ b := fun h => m0 (hw.inj M 0 (hlt hx) (hlt h0) lM (live_cn hw h0) (by rw [hb, h]))
      have e1 : (ρ' 1).blk ≠ b := fun h => m1 (hw.inj M 1 (hlt hx) (hlt h1) lM (live_cn hw h1) (by rw [hb, h]))
      match i with
      | 0 => exact e0 hbi
      | 1 => exact e1 hbi
      | 2 =>
        have hbi : (ρ' p).blk = b := hbi
        by_cases hn : (ρ' p).nl = none
        · have lp : deadE (ρ' p) (zD e p) = false := (deadE_of h2).2 ⟨(by show ¬ ((30 : Nat) = DEAD); decide), hn⟩
          exact mp (hw.inj M p (hlt hx) (hlt h2) lM lp (by rw [hb, hbi]))
        · exact e0 (by rw [← hnl hn, hbi])
      | i + 3 => simp [en3, zD] at hi
    · have := hw.lt (hlt hx) lM
      omega
  refine ⟨x, g1, g2, ⟨fun b o e' => ?_, fun b o e' => ?_⟩⟩
  · obtain ⟨q1, q2⟩ := g3 b o e'
    exact far N _ (by omega) (by omega) (by omega) h3 (by show ¬ ((54 : Nat) = DEAD); decide) q1 b q2
  · obtain ⟨q1, q2⟩ := g4 b o e'
    exact far (N + 1) _ (by omega) (by omega) (by omega) h4 (by show ¬ ((9 : Nat) = DEAD); decide) q1 b q2
end Go.Proofs.YtehfcboiimdkbaaGreatDoor
