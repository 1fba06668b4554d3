/- words.Split: a new list of a line's words. -/
import Derived.RangeFuncBox
import Derived.Maps.AppendAt
import Derived.Test.YtehfcboiimdkbaaGreatDoorCWords
namespace Go.Proofs.YtehfcboiimdkbaaGreatDoor
set_option linter.unusedSimpArgs false
set_option linter.unusedVariables false
open Go.RowKit Go.Shelf
attribute [local go_sem] Oper.semAt_some
theorem Box.of {Bn : Nat} {W W' : World} {s : List UInt8} (h : Box Bn W s) (hc : W'.heap[Bn]? = W.heap[Bn]?) : Box Bn W' s := by
  refine ⟨h.1, ?_, ?_⟩
  · have := h.2.1; simpa [World.cell?, hc] using this
  · have := h.2.2; simpa [World.frozen?, hc] using this
theorem range_words {g : Operand} {ps : Array Tmp} {assign body : Code} {Q : Exit → Act → World → Prop} {a : Act} {w : World} (n : Nat) (hn : 2 ≤ n) (Bn : Nat) (hBn : Bn < w.heap.size) (m : Int) (s0 : List UInt8)
    (hg : a.eval g = .func (.func 63) #[] #[.pointer (some ⟨Bn, 0, none⟩)]) (hps : ps.size = 1) (hbox : Box Bn w s0)
    (I : List (List UInt8) → World → Prop) (hset : ∀ pre W v, I pre W → I pre (W.setCell ⟨Bn, 0, none⟩ v)) (hdrew : ∀ pre W k, I pre W → I pre (W.drewN k))
    (hmax : ∀ pre W, I pre W → W.cell? ⟨0, 0, none⟩ = some (.int .i64 m))
    (halloc : ∀ pre W o, I pre W → I pre (W.alloc o)) (hput : ∀ pre W l o o', I pre W → w.heap.size ≤ l → W.heap[l]? = some o → o.isCells = false → I pre (W.putObj l o'))
    (h0 : I [] w) (a₁ : List UInt8 → Act)
    (hassign : ∀ (l : Nat) (x : List UInt8) (W : World) (K : Act → World → Prop), K (a₁ x) W →
      assign.wpIn (Fence.wide.inRound l) (n - 1 - 1) Tryz.prog (Exit.then K (fun _ _ _ => False)) { tmps := (ps.zip #[Value.string ⟨x.toArray⟩]).foldl (fun t (p, v) => t.setIfInBounds p v) a.tmps, defers := [] } W)
    (hbody : ∀ (l : Nat) (pre : List (List UInt8)) (x : List UInt8) (W : World) (s : List UInt8), I pre W → Box Bn W s → pre.length < (wordsF (s0.length + 1) s0).length →
      body.wpIn (Fence.wide.inRound l) (n - 1 - 1) Tryz.prog (ownPostG w.heap.size (fun _ W' => Box Bn W' s) I (fun _ _ _ => False) (pre ++ [x]) W) (a₁ x) W)
    (hdone : ∀ (D : Nat) (W : World), w.heap.size ≤ D → I (wordsF (s0.length + 1) s0) W → W.heap[D]? = some (.deferred (some [])) → Q .normal { a with defers := { target := .collected D, args := #[] } :: a.defers } W) :
    (Code.rangeFunc g ps assign body).wpIn .wide n Tryz.prog Q a w := by
  refine wpIn_rangeFunc ?_
  intro fn hfn
  obtain ⟨rec, hrec⟩ : ∃ rec : LoopState → Option Code → Loop, rec = fun st pe => { state := st, pending := pe, fn, tmps := a.tmps, params := ps, assign, body, defers := w.heap.size } := ⟨_, rfl⟩
  obtain ⟨W1, hW1⟩ : ∃ W1, (w.alloc (.deferred (some []))).alloc (.loop (rec .ready none)) = W1 := ⟨_, rfl⟩
  have hL1 : W1.heap[w.heap.size + 1]? = some (.loop (rec .ready none)) := by
    rw [← hW1]; have := World.alloc_heap_new (w.alloc (.deferred (some []))) (.loop (rec .ready none)); rwa [World.size_alloc] at this
  have hK1 : W1.heap[w.heap.size]? = some (.deferred (some [])) := by
    rw [← hW1]; exact (Below.heap_alloc _ _ _ (by simp)).trans (World.alloc_heap_new w _)
  have hI1 : I [] W1 := by rw [← hW1]; exact halloc _ _ _ (halloc _ _ _ h0)
  have hX1 : Box Bn W1 s0 := hbox.of (by rw [← hW1, Below.heap_alloc _ _ _ (by simp; omega), Below.heap_alloc _ _ _ hBn])
  refine ⟨w.heap.size + 1, [{ target := .collected w.heap.size, args := #[] }], W1, { target := .fn (.func 63) #[.pointer (some ⟨Bn, 0, none⟩)], args := #[.func (.yield (w.heap.size + 1)) #[] #[]] }, W1, 63,
    #[.func (.yield (w.heap.size + 1)) #[] #[]] ++ #[.pointer (some ⟨Bn, 0, none⟩)], W1, ?_, ?_, ?_, ?_, fun _ => by omega, ?_⟩
  · rw [← hW1, hrec]; exact run_enterLoop_outer _ _ _ _ _
  · simp only [resolve, hg]
    simp [go_sem]
  · intro f' hf'; trivial
  · simp [invoke, go_sem]
  · refine (words1 (w.heap.size + 1) Bn m (fun pre W => I pre W ∧ W.heap[w.heap.size + 1]? = some (.loop (rec .ready none)) ∧ W.heap[w.heap.size]? = some (.deferred (some [])))
      s0 _ ?_ ?_ (fun pre W h => hmax pre W h.1) (n - 1) (by omega) ?_ W1 ⟨hI1, hL1, hK1⟩ hX1 rfl).mono ?_
    · rintro pre W v ⟨h1, h2, h3⟩
      exact ⟨hset _ _ _ h1, (Below.heap_setCell _ _ _ _ (by show _ ≠ Bn; omega)).trans h2, (Below.heap_setCell _ _ _ _ (by show _ ≠ Bn; omega)).trans h3⟩
    · rintro pre W k ⟨h1, h2, h3⟩
      exact ⟨hdrew _ _ _ h1, h2, h3⟩
    · rintro pre x W s ⟨hi, hl, hk⟩ hB hlen
      have hlt : w.heap.size + 1 < W.heap.size := (Array.getElem?_eq_some_iff.1 hl).1
      have hy := run_yield (P := Tryz.prog) (args := #[Value.string ⟨x.toArray⟩]) hl (by rw [hrec]; exact hps.symm)
      rw [hrec] at hy
      refine ⟨fn, _, assign, body, hy, roundIn_of_wpIn hfn (hassign _ x W _ ?_)⟩
      refine ⟨_, run_beginRound hl (by rw [hrec]), ?_⟩
      have hl2 : (W.putObj (w.heap.size + 1) (.loop { rec .ready none with state := .busy })).heap[w.heap.size + 1]? = some (.loop { rec .ready none with state := .busy }) := World.putObj_heap_same hlt
      have hk2 : (W.putObj (w.heap.size + 1) (.loop { rec .ready none with state := .busy })).heap[w.heap.size]? = some (.deferred (some [])) := (World.putObj_heap_other (by omega)).trans hk
      have hb2 : Box Bn (W.putObj (w.heap.size + 1) (.loop { rec .ready none with state := .busy })) s := hB.of (World.putObj_heap_other (by omega))
      refine wpIn_mono (hbody _ pre x _ s (hput _ _ _ _ _ hi (by omega) hl rfl) hb2 hlen) ?_
      rintro e a3 W3 hp
      cases e with
      | normal =>
        obtain ⟨hk3, hkp3, hi3⟩ := hp
        have hl3 := hk3.same _ _ (by omega) hl2 rfl
        have hr := run_endRound (P := Tryz.prog) none hl3
        rw [hrec] at hr
        have hl4 := World.putObj_heap_same (o := .loop (rec .ready none)) (Array.getElem?_eq_some_iff.1 hl3).1
        refine ⟨_, _, hr, rfl, ⟨hput _ _ _ _ _ hi3 (by omega) hl3 rfl, ?_, ?_⟩, hkp3.of (World.putObj_heap_other (by omega))⟩
        · rw [hrec] at hl4 ⊢; exact hl4
        · exact (World.putObj_heap_other (by omega)).trans (hk3.same _ _ (Nat.le_refl _) hk2 rfl)
      | ret => exact hp.2.elim
      | exit id => exact hp.2.elim
      | goto t => exact hp.2.elim
      | panic ch => exact hp.elim
      | outgrown => exact hp.elim
    · rintro e W2 ⟨⟨v, rfl⟩, hi, hl, hk⟩
      exact ⟨none, _, by have := run_endLoop (P := Tryz.prog) hl (by rw [hrec]; simp); rw [hrec] at this; exact this, hdone _ _ (Nat.le_refl _) (hput _ _ _ _ _ hi (by omega) hl rfl) ((World.putObj_heap_other (by omega)).trans hk)⟩
theorem wordsIn (n : Nat) (s : List UInt8) (w : World) : CallsIn .wide n Tryz.prog 47 #[.string ⟨s.toArray⟩] w fun e w' => e = .returned (.func (.func 63) #[] #[.pointer (some ⟨w.heap.size, 0, none⟩)]) ∧ w' = w.alloc (.cells #[.string ⟨s.toArray⟩] 9) := by
  refine callsIn_of_wp Tryz.func47 rfl trivial ?_ rfl
  simp only [Tryz.ntmps47, List.size_toArray, List.length_cons, List.length_nil, Nat.reduceAdd, Nat.reduceSub, Array.replicate_succ, Array.replicate_zero, List.push_toArray, List.append_toArray, List.nil_append, List.cons_append]
  gi_wp2
  go_ret
  exact ⟨rfl, rfl⟩
theorem infoStrW : (Tryz.prog.info? 9).map (fun i => (i.zero, i.size, i.bytes)) = some (some (.string ⟨#[]⟩), 1, 16) := by kernel_rfl
theorem ownsRow_weak {W : World} {b b' : Nat} {e : TypeId} {size : Nat} {v : Value} {k : Nat} {xs : List Value} (h : W.ownsRow b e size v k xs) (hb : b' ≤ b) : W.ownsRow b' e size v k xs :=
  ⟨h.1, h.2.imp id fun ⟨g, cap, cur, h1, h2, h3⟩ => ⟨g, cap, cur, h1, Nat.le_trans hb h2, h3⟩⟩
def encW (x : List UInt8) : Value := .string ⟨x.toArray⟩
theorem wordsF_len : ∀ (k : Nat) (l : List UInt8), (wordsF k l).length ≤ l.length := by
  intro k
  induction k with
  | zero => intro l; exact Nat.zero_le _
  | succ k ih =>
    intro l
    rw [words_step]
    split
    · exact Nat.zero_le _
    · rename_i hne
      have h1 := (List.dropWhile_sublist (p := (· == (32 : UInt8))) (l := l)).length_le
      have h2 := (List.dropWhile_sublist (p := (· != (32 : UInt8))) (l := l.dropWhile (· == 32))).length_le
      have h3 : 0 < (l.dropWhile (· == 32)).length := List.length_pos_iff.2 hne
      have h4 := ih (((l.dropWhile (· == 32)).dropWhile (· != 32)).drop 1)
      rw [List.length_drop] at h4
      by_cases h5 : ((l.dropWhile (· == 32)).dropWhile (· != 32)).length = 0
      · rw [List.length_cons]; omega
      · rw [List.length_cons]; omega
def SplitI (n₀ : Nat) (w : World) (pre : List (List UInt8)) (W : World) : Prop :=
  (∃ v, Boxed W n₀ 28 v ∧ W.ownsRow (n₀ + 2) 9 1 v pre.length (pre.map encW)) ∧ Below n₀ w W ∧ n₀ + 2 ≤ W.heap.size
theorem SplitI.new {n₀ : Nat} {w : World} {pre : List (List UInt8)} {W W' : World} (h : SplitI n₀ w pre W) (hsz : W.heap.size ≤ W'.heap.size)
    (hk : ∀ k, k < W.heap.size → k ≠ n₀ + 1 → ∀ c t fr, W.heap[k]? = some (.cells c t fr) → W'.heap[k]? = some (.cells c t fr)) (hb : Below n₀ w W') : SplitI n₀ w pre W' := by
  obtain ⟨⟨v, hv, hr⟩, hB, hs⟩ := h
  refine ⟨⟨v, ?_, ?_⟩, hb, by omega⟩
  · exact hk _ (by omega) (by omega) _ _ _ hv
  · refine ⟨hr.1, hr.2.imp id ?_⟩
    rintro ⟨g, cap, cur, h1, h2, h3, h4⟩
    exact ⟨g, cap, cur, h1, h2, hk _ (Array.getElem?_eq_some_iff.1 h3).1 (by omega) _ _ _ h3, h4⟩
theorem lt_of_cell {w : World} {b o : Nat} {v : Value} (h : w.cell? ⟨b, o, none⟩ = some v) : b < w.heap.size := by
  refine Decidable.byContradiction fun hc => ?_
  simp [World.cell?, show w.heap[b]? = none from Array.getElem?_eq_none (by omega)] at h
set_option maxRecDepth 100000 in
set_option maxHeartbeats 1000000 in
theorem split_any (s : List UInt8) (hs : s.length ≤ 100000) (m : Int) (w : World) (hm : w.cell? ⟨0, 0, none⟩ = some (.int .i64 m)) :
    Calls Tryz.prog 36 #[.string ⟨s.toArray⟩] w fun e W' => ∃ v, e = .returned v ∧
      W'.ownsRow w.heap.size 9 1 v (wordsF (s.length + 1) s).length ((wordsF (s.length + 1) s).map encW) ∧ Below w.heap.size w W' := by
  have h7 := lt_of_cell hm
  obtain ⟨i0, hi, hz0, hz1, hz2⟩ := info_parts infoStrW
  have hwl := wordsF_len (s.length + 1) s
  refine (callsIn_wide (n := 5)).1 ?_
  refine callsIn_of_wp_marks Tryz.func36 rfl trivial ?_ rfl
  simp only [Tryz.ntmps36, List.size_toArray, List.length_cons, List.length_nil, Nat.reduceAdd, Nat.reduceSub, Array.replicate_succ, Array.replicate_zero, List.push_toArray, List.append_toArray, List.nil_append, List.cons_append]
  gi_wp2
  refine ⟨trivial, ?_⟩
  refine (wordsIn _ s _).mono ?_
  rintro e w' ⟨rfl, rfl⟩
  gi_wp2
  have bO := Boxed.new w 28 (.slice none 0 0)
  have bN := Boxed.new (w.alloc (.cells #[.slice none 0 0] 28)) 9 (.string ⟨s.toArray⟩)
  rw [World.size_alloc] at bN
  have hB0 : Below w.heap.size w ((w.alloc (.cells #[.slice none 0 0] 28)).alloc (.cells #[.string ⟨s.toArray⟩] 9)) := ((Below.refl _ w).alloc (Nat.le_refl _) _).alloc (by simp) _
  refine range_words 5 (by omega) (w.heap.size + 1) (by simp) m s rfl rfl ⟨hs, bN.cell, bN.frozen⟩ (SplitI w.heap.size w) ?hset ?hdrew ?hmax ?halloc ?hput ⟨⟨_, bO.alloc _, World.ownsRow_nil _ _ _ _⟩, hB0, by simp⟩
    (fun x => { tmps := #[.string ⟨s.toArray⟩, undef, .slice none 0 0, .pointer (some ⟨w.heap.size, 0, none⟩), .string ⟨x.toArray⟩, .string ⟨s.toArray⟩, .func (.func 63) #[] #[.pointer (some ⟨w.heap.size + 1, 0, none⟩)], .string ⟨x.toArray⟩, undef, undef, undef, undef, undef], defers := [] }) ?assign ?body ?done
  case hset =>
    intro pre W v h
    exact h.new (by simp) (fun k _ h1 c t fr h2 => (Below.heap_setCell _ _ _ _ h1).trans h2) (h.2.1.setCell (by show _ ≤ w.heap.size + 1; omega) _)
  case hdrew =>
    intro pre W k h
    exact ⟨h.1, ⟨h.2.1.os, h.2.1.tape, h.2.1.output, h.2.1.size, h.2.1.block⟩, h.2.2⟩
  case hmax =>
    intro pre W h
    exact (h.2.1.cell (p := ⟨0, 0, none⟩) h7).trans hm
  case halloc =>
    intro pre W o h
    exact h.new (by simp) (fun k hk _ c t fr h2 => (Below.heap_alloc _ _ _ hk).trans h2) (h.2.1.alloc (by have := h.2.2; omega) _)
  case hput =>
    intro pre W l o o' h hl ho hc
    have hl' : w.heap.size + 2 ≤ l := by simpa using hl
    refine h.new (by simp) (fun k hk _ c t fr h2 => (World.putObj_heap_other ?_).trans h2) (h.2.1.trans ((Below.refl _ W).grown (grownBy_putObj' W l o') (by have := h.2.2; omega) (fun k e => by cases e; omega)))
    rintro rfl; rw [h2] at ho; cases ho; cases hc
  case assign =>
    intro l x W K hK
    gi_wp2
    exact hK
  case body =>
    rintro l pre x W s' ⟨⟨v, hv, hrow⟩, hB, hsz⟩ hbox hlen
    have hc := hv.cell
    gi_wp2_with (gi_at_builtin; refine wpListIn_append_own _ rfl _ _ 28 rfl (w.heap.size + 2) 9 i0 _ 1 16 Tryz.underlying28 hi hz0 hz1 hz2 rfl (by decide) _ _ _ rfl (hrow.alloc _) ⟨W.heap.size, 0, none⟩ 1 1 [.string ⟨x.toArray⟩] rfl rfl (cell_one_new _ _ _) (by simp [Value.oneCell']) (by unfold maxLen; omega) (by omega) (by simp; omega) ?_; intro v' w1 hown' hgrow _; obtain ⟨g', cap', rfl⟩ := ownsRow_succ hown'; obtain ⟨hv1, hv2, hr2, hk2, hb2⟩ := hv.appended (by decide) (ownsRow_weak hrow (by omega)) hB.size (Nat.le_refl _) (ownsRow_weak hown' (by omega)) hgrow; have hc1 := hv1.cell; have hf1 := hv1.frozen)
    have hg' := (hown'.lt g' rfl).1
    have hvb : ∀ k, v.ownBlock = some k → w.heap.size + 2 ≤ k := fun k e => (hrow.lt k e).1
    have hown2 := hown'.kept (grownBy_setCell' w1 w.heap.size (.slice (some ⟨g', 0, none⟩) (pre.length + 1) cap')) (.inr (by intro e; have e2 : g' = w.heap.size := Option.some.inj e; omega))
    refine ⟨hk2.from _, hbox.of ?_, ⟨_, hv2, ?_⟩, hB.trans hb2, ?_⟩
    · refine (Below.heap_setCell _ _ _ _ (by show _ ≠ w.heap.size; omega)).trans ?_
      refine (hgrow.block _ (by simp; omega) (fun e => ?_)).trans (Below.heap_alloc _ _ _ (by omega))
      have := hvb _ e.symm; omega
    · rw [List.length_append, List.length_singleton, List.map_append]; exact hown2
    · have := hb2.size; omega
  case done =>
    rintro D W hD ⟨⟨v, hv, hrow⟩, hB, hsz⟩ hK
    have hc := hv.cell
    gi_wp2
    refine ⟨by simp, .inl ⟨_, _, rfl, run_takeDeferred hK, ?_⟩⟩
    exact ⟨_, results_tmp rfl _ _ _, v, rfl, ownsRow_putObj (ownsRow_weak hrow (by omega)) _ hK rfl, hB.trans (belowK_b (w := w) (Nat.le_refl _) W D _ _ (by simp at hD; omega) hK rfl rfl)⟩
end Go.Proofs.YtehfcboiimdkbaaGreatDoor
