/- words.Join of words that lie in a row of the walk, as a row of contracts. -/
import Derived.Test.YtlbbldcfkalhlaaGreatDoorCTshown
import Derived.Test.YtlbbldcfkalhlaaGreatDoorBB
namespace Go.Proofs.YtlbbldcfkalhlaaGreatDoor
set_option linter.unusedSimpArgs false
set_option linter.unusedVariables false
open Go.RowKit
set_option maxRecDepth 100000

theorem infoStrJ : (Tryz.prog.info? 9).map (fun i => (i.zero, i.size, i.bytes)) = some (some (.string ⟨#[]⟩), 1, 16) := by kernel_rfl
/-- the texts of cells -/
def strsOf : List SC → Option (List (List UInt8))
  | [] => some []
  | .s x :: l => match strsOf l with
    | some r => some (x :: r)
    | none => none
  | _ :: _ => none
theorem strsOf_eq : ∀ {l : List SC} {ws : List (List UInt8)}, strsOf l = some ws → l = ws.map .s
  | [], ws, h => by
    simp only [strsOf, Option.some.injEq] at h
    subst h; rfl
  | x :: l, ws, h => by
    unfold strsOf at h
    split at h
    · rename_i he; cases he
    · rename_i y t he
      split at h
      · rename_i r hr
        simp only [Option.some.injEq] at h
        obtain ⟨rfl, rfl⟩ := List.cons.inj he
        subst h
        rw [List.map_cons, strsOf_eq hr]
      · cases h
    · cases h
theorem strsOf_map : ∀ ws : List (List UInt8), strsOf (ws.map .s) = some ws
  | [] => rfl
  | x :: ws => by simp only [List.map_cons, strsOf, strsOf_map ws]
def rowJoinR (en : List EN) : List SV → Option (Prop × SV)
  | [.c (.rw N n)] => match zD en N with
    | some ⟨(t, o, iv), cells, _⟩ => match strsOf cells with
      | some ws => some (t = 9 ∧ o = 0 ∧ iv = rowP 1 n cells.length ∧ n = ws.length ∧ n ≤ 140737488355328 ∧ (joinW ws).length ≤ 140737488355328, .c (.s (joinW ws)))
      | none => none
    | none => none
  | [.c (.sl c 0 n m)] => match zD en c with
    | some ⟨(t, o, iv), cells, _⟩ => match strsOf cells with
      | some ws => some (t = 9 ∧ o = 0 ∧ iv = whole ∧ n = ws.length ∧ n ≤ m ∧ n ≤ 140737488355328 ∧ (joinW ws).length ≤ 140737488355328, .c (.s (joinW ws)))
      | none => none
    | none => none
  | _ => none
theorem rowJoinR_ok {ρ : Nat → RE} {en : List EN} {w : World} {xs : List SV} {p : Prop} {v : SV} (h : rowJoinR en xs = some (p, v)) (hp : p) (hHp : Hp ρ (· < en.length) en w) (hHo : Ho ρ (· < en.length) en) :
    v.wf (· < en.length) ∧ Calls Tryz.prog 14 (xs.map (SV.den ρ)).toArray w fun e w' => e = .returned (v.den ρ) ∧ Below w.heap.size w w' := by
  have cell : ∀ {N : Nat} {ty : TypeId × Nat × (RE → Prop)} {ws : List (List UInt8)} {mu : Bool}, N < en.length → zD en N = some ⟨ty, ws.map .s, mu⟩ → (ρ N).pre = [] → ∀ (k : Nat) x, ws[k]? = some x → w.cell? ⟨(ρ N).blk, 0 + k, none⟩ = some (.string ⟨x.toArray⟩) := by
    intro N ty ws mu lN hN hpre k x hx
    have hf : (ws.map SC.s)[k]? = some (.s x) := by rw [List.getElem?_map, hx]; rfl
    have := hHp.cellAt lN hN hf
    rw [hpre] at this
    rw [← show (w.cell? ⟨(ρ N).blk, ([] : List Value).length + k, none⟩) = w.cell? ⟨(ρ N).blk, 0 + k, none⟩ from rfl]
    exact this
  unfold rowJoinR at h
  split at h
  · rename_i N n
    split at h <;> try cases h
    rename_i t o iv cells mu hN
    split at h <;> simp only [Option.some.injEq, Prod.mk.injEq, reduceCtorEq] at h
    rename_i ws hs
    obtain ⟨rfl, rfl⟩ := h
    obtain ⟨rfl, rfl, rfl, rfl, hn, hj⟩ := hp
    have hc := strsOf_eq hs
    subst hc
    have lN : N < en.length := by rw [nthS_eq] at hN; exact (List.getElem?_eq_some_iff.1 hN).1
    obtain ⟨_, hL, hO⟩ := hHo N _ _ _ lN hN
    refine ⟨trivial, ?_⟩
    rcases hO with ⟨h1, h2, h3, h4, h5⟩ | ⟨h1, h2, h3⟩
    · have e : (SC.rw N ws.length).den ρ = .slice (some ⟨(ρ N).blk, 0, none⟩) ws.length (ρ N).cap := by simp only [SC.den]; rw [rwOf_on h1]
      have := wjoin_w (w := w) (g := w.heap.size) (a := some ⟨(ρ N).blk, 0, none⟩) (c := (ρ N).cap) (ws := ws) (fun k x hx => by
        have hcl := cell lN hN h2 k x hx
        have hb := Go.block_lt_of_cell hcl
        exact ⟨_, 0, rfl, hb, Nat.ne_of_lt hb, hcl⟩) h4 hn hj
      show Calls _ _ #[_] _ _
      rw [show (SV.c (SC.rw N ws.length)).den ρ = _ from e]
      exact this
    · have hw0 : ws = [] := List.eq_nil_of_length_eq_zero h2
      subst hw0
      have e : (SC.rw N 0).den ρ = .slice none 0 0 := by simp only [SC.den]; rw [rwOf_off h1]
      have := wjoin_w (w := w) (g := w.heap.size) (a := none) (c := 0) (ws := []) (fun k x hx => by simp at hx) (Nat.le_refl _) (by simp) hj
      show Calls _ _ #[_] _ _
      rw [show (SV.c (SC.rw N ([] : List (List UInt8)).length)).den ρ = _ from e]
      exact this
  · rename_i c n m
    split at h <;> try cases h
    rename_i t o iv cells mu hN
    split at h <;> simp only [Option.some.injEq, Prod.mk.injEq, reduceCtorEq] at h
    rename_i ws hs
    obtain ⟨rfl, rfl⟩ := h
    obtain ⟨rfl, rfl, rfl, rfl, hnm, hn, hj⟩ := hp
    have hc := strsOf_eq hs
    subst hc
    have lN : c < en.length := by rw [nthS_eq] at hN; exact (List.getElem?_eq_some_iff.1 hN).1
    obtain ⟨_, h1, h2⟩ := hHo c _ _ _ lN hN
    refine ⟨trivial, ?_⟩
    have e : (SC.sl c 0 ws.length m).den ρ = .slice (some ⟨(ρ c).blk, 0, none⟩) ws.length m := by simp only [SC.den, h1]; rfl
    have := wjoin_w (w := w) (g := w.heap.size) (a := some ⟨(ρ c).blk, 0, none⟩) (c := m) (ws := ws) (fun k x hx => by
      have hcl := cell lN hN h1 k x hx
      have hb := Go.block_lt_of_cell hcl
      exact ⟨_, 0, rfl, hb, Nat.ne_of_lt hb, hcl⟩) hnm hn hj
    show Calls _ _ #[_] _ _
    rw [show (SV.c (SC.sl c 0 ws.length m)).den ρ = _ from e]
    exact this
  · cases h
end Go.Proofs.YtlbbldcfkalhlaaGreatDoor
