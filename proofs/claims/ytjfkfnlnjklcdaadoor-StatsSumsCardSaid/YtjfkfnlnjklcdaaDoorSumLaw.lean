/- Plain laws of StatsSums: gets are hits and misses. No program in sight. -/
import Derived.Test.YtjfkfnlnjklcdaaDoorStatB
namespace Go.Proofs.YtjfkfnlnjklcdaaDoor

/-- one command more of its kind, if it was answered -/
def tally (op st : Int) (M : Nat → Int) : Nat → Int := if 1 ≤ st ∧ st ≤ 12 ∧ 0 ≤ op ∧ op ≤ 7 then (fun i => if (i : Int) = op then M i + 1 else M i) else M

structure Sums (k : Int) (N M : Nat → Int) : Prop where
  bn : ∀ i, 0 ≤ N i ∧ N i ≤ k
  bm : ∀ i, 0 ≤ M i ∧ M i ≤ k
  g : N 0 = M 1
  gh : N 4 + N 5 = M 1
  s : N 1 = M 2
  c : N 12 + N 13 + N 14 ≤ M 2
  d : N 6 + N 7 ≤ M 5
  t : N 2 = M 4
  tt : N 15 + N 16 ≤ M 4
  f : N 3 = M 6
  e : N 17 = 0

theorem tally_bnd {k : Int} {M : Nat → Int} (h : ∀ i, 0 ≤ M i ∧ M i ≤ k) (op st : Int) : ∀ i, 0 ≤ tally op st M i ∧ tally op st M i ≤ k + 1 := by
  intro i
  have := h i
  unfold tally
  split
  · dsimp only; split <;> omega
  · omega
theorem tally_get (op st : Int) (M : Nat → Int) (j : Nat) : tally op st M j = M j + (if (1 ≤ st ∧ st ≤ 12 ∧ 0 ≤ op ∧ op ≤ 7) ∧ (j : Int) = op then 1 else 0) := by
  unfold tally
  by_cases h : 1 ≤ st ∧ st ≤ 12 ∧ 0 ≤ op ∧ op ≤ 7
  · by_cases h2 : (j : Int) = op
    · rw [if_pos h]; show (if (j : Int) = op then M j + 1 else M j) = _; rw [if_pos h2, if_pos ⟨h, h2⟩]
    · rw [if_pos h]; show (if (j : Int) = op then M j + 1 else M j) = _; rw [if_neg h2, if_neg (fun e : (1 ≤ st ∧ st ≤ 12 ∧ 0 ≤ op ∧ op ≤ 7) ∧ (j : Int) = op => h2 e.2)]; omega
  · rw [if_neg h, if_neg (fun e => h e.1)]; omega
theorem bump_get {k : Int} {N : Nat → Int} (h : ∀ i, 0 ≤ N i ∧ N i ≤ k) (hk : k ≤ 1000) (a j : Nat) : bump N a 1 j = N j + (if j = a then 1 else 0) := by
  have := h a
  unfold bump
  by_cases e : j = a
  · subst e; rw [if_pos rfl, if_pos rfl, IntKind.wrap_u64]; omega
  · rw [if_neg e, if_neg e]; omega
theorem bump2_get {k : Int} {N : Nat → Int} (h : ∀ i, 0 ≤ N i ∧ N i ≤ k) (hk : k ≤ 999) (a b j : Nat) : bump (bump N a 1) b 1 j = N j + (if j = a then 1 else 0) + (if j = b then 1 else 0) := by
  rw [bump_get (k := k + 1) (N := bump N a 1) (fun i => by rw [bump_get h (by omega)]; have := h i; split <;> omega) (by omega), bump_get h (by omega)]
theorem first_nil (st : Int) : first [] st = [] := rfl
theorem first_cons (s : Int) (p : Nat) (l : List (Int × Nat)) (st : Int) : first ((s, p) :: l) st = if s = st then [p] else first l st := by
  unfold first; rw [List.find?_cons]
  by_cases e : s = st
  · simp [e]
  · have : (s == st) = false := by simpa using e
    simp only [this, if_neg e]
theorem fStore (st : Int) : first lStore st = [] ∨ first lStore st = [12] ∨ first lStore st = [13] ∨ first lStore st = [14] := by
  unfold lStore; rw [first_cons]; split
  · exact .inr (.inl rfl)
  · rw [first_cons]; split
    · exact .inr (.inr (.inl rfl))
    · rw [first_cons]; split
      · exact .inr (.inr (.inr rfl))
      · exact .inl rfl
theorem fTwo (a b : Int) (p q : Nat) (st : Int) : first [(a, p), (b, q)] st = [] ∨ first [(a, p), (b, q)] st = [p] ∨ first [(a, p), (b, q)] st = [q] := by
  rw [first_cons]; split
  · exact .inr (.inl rfl)
  · rw [first_cons]; split
    · exact .inr (.inr rfl)
    · exact .inl rfl

/-- what one round does, by the places that are one more -/
theorem Sums.of_none {k : Int} {N M : Nat → Int} (h : Sums k N M) (op st : Int) (ho : (1 ≤ st ∧ st ≤ 12 ∧ 0 ≤ op ∧ op ≤ 7) → op ≠ 1 ∧ op ≠ 2 ∧ op ≠ 4 ∧ op ≠ 6) : Sums (k + 1) N (tally op st M) := by
  obtain ⟨bn, bm, g, gh, s, c, d, t, tt, f, e⟩ := h
  have hn : ∀ (j : Nat), (j : Int) = 1 ∨ (j : Int) = 2 ∨ (j : Int) = 4 ∨ (j : Int) = 6 → tally op st M j = M j := fun j hj => by
    rw [tally_get, if_neg]; omega
    intro hh; have := ho hh.1; omega
  have h5 : M 5 ≤ tally op st M 5 := by rw [tally_get]; split <;> omega
  exact ⟨fun i => by have := bn i; omega, tally_bnd bm op st, by rw [hn 1 (by omega)]; exact g, by rw [hn 1 (by omega)]; exact gh, by rw [hn 2 (by omega)]; exact s, by rw [hn 2 (by omega)]; exact c, by omega, by rw [hn 4 (by omega)]; exact t, by rw [hn 4 (by omega)]; exact tt, by rw [hn 6 (by omega)]; exact f, e⟩

set_option maxHeartbeats 4000000 in
theorem Sums.step {k : Int} {N M : Nat → Int} (h : Sums k N M) (hk : k ≤ 200) (op st : Int) (cas down : Bool) : Sums (k + 1) (step op st 0 cas down N) (tally op st M) := by
  unfold Go.Proofs.YtjfkfnlnjklcdaaDoor.step
  split
  · rename_i hs
    exact h.of_none op st (fun hh => by omega)
  · rename_i hs
    rw [show evs N 0 = N from rfl]
    obtain ⟨bn, bm, g, gh, s, c, d, t, tt, f, e⟩ := h
    have hb := tally_bnd bm op st
    have T1 := tally_get op st M 1; have T2 := tally_get op st M 2; have T4 := tally_get op st M 4; have T5 := tally_get op st M 5; have T6 := tally_get op st M 6
    generalize tally op st M = M' at *
    have key : ∀ l : List Nat, (∀ j, bumps N l j = N j + (if j ∈ l then 1 else 0)) →
        (N 0 + (if 0 ∈ l then 1 else 0) = M' 1) → (N 4 + (if 4 ∈ l then 1 else 0) + (N 5 + (if 5 ∈ l then 1 else 0)) = M' 1) → (N 1 + (if 1 ∈ l then 1 else 0) = M' 2) →
        (N 12 + (if 12 ∈ l then 1 else 0) + (N 13 + (if 13 ∈ l then 1 else 0)) + (N 14 + (if 14 ∈ l then 1 else 0)) ≤ M' 2) → (N 6 + (if 6 ∈ l then 1 else 0) + (N 7 + (if 7 ∈ l then 1 else 0)) ≤ M' 5) →
        (N 2 + (if 2 ∈ l then 1 else 0) = M' 4) → (N 15 + (if 15 ∈ l then 1 else 0) + (N 16 + (if 16 ∈ l then 1 else 0)) ≤ M' 4) → (N 3 + (if 3 ∈ l then 1 else 0) = M' 6) → (N 17 + (if 17 ∈ l then 1 else 0) = 0) → Sums (k + 1) (bumps N l) M' := by
      intro l hl a1 a2 a3 a4 a5 a6 a7 a8 a9
      exact ⟨fun i => by rw [hl]; have := bn i; split <;> omega, hb, by rw [hl]; exact a1, by rw [hl, hl]; exact a2, by rw [hl]; exact a3, by rw [hl, hl, hl]; exact a4, by rw [hl, hl]; exact a5, by rw [hl]; exact a6, by rw [hl, hl]; exact a7, by rw [hl]; exact a8, by rw [hl]; exact a9⟩
    have k0 : ∀ j, bumps N [] j = N j + (if j ∈ ([] : List Nat) then 1 else 0) := fun j => by simp [bumps]
    have k1 : ∀ a j, bumps N [a] j = N j + (if j ∈ [a] then 1 else 0) := fun a j => by
      show bump N a 1 j = _
      rw [bump_get bn (by omega)]; simp
    have k2 : ∀ a b, a ≠ b → ∀ j, bumps N [a, b] j = N j + (if j ∈ [a, b] then 1 else 0) := fun a b hab j => by
      show bump (bump N a 1) b 1 j = _
      rw [bump2_get bn (by omega)]
      by_cases h1 : j = a
      · subst h1; simp [hab]
      · simp [h1]
    unfold hits
    by_cases o1 : op = 1
    · subst o1
      rw [if_pos rfl]
      split
      · exact key _ (k2 0 4 (by omega)) (by simp_all; try omega) (by simp_all; try omega) (by simp_all; try omega) (by simp_all; try omega) (by simp_all; try omega) (by simp_all; try omega) (by simp_all; try omega) (by simp_all; try omega) (by simp_all; try omega)
      · exact key _ (k2 0 5 (by omega)) (by simp_all; try omega) (by simp_all; try omega) (by simp_all; try omega) (by simp_all; try omega) (by simp_all; try omega) (by simp_all; try omega) (by simp_all; try omega) (by simp_all; try omega) (by simp_all; try omega)
    · rw [if_neg o1]
      by_cases o2 : op = 2
      · subst o2
        rw [if_pos rfl]
        cases cas
        · rw [if_neg (by decide)]; exact key _ (k1 1) (by simp_all; try omega) (by simp_all; try omega) (by simp_all; try omega) (by simp_all; try omega) (by simp_all; try omega) (by simp_all; try omega) (by simp_all; try omega) (by simp_all; try omega) (by simp_all; try omega)
        · rw [if_pos rfl]
          rcases fStore st with hf | hf | hf | hf
          · rw [hf]; exact key _ (k1 1) (by simp_all; try omega) (by simp_all; try omega) (by simp_all; try omega) (by simp_all; try omega) (by simp_all; try omega) (by simp_all; try omega) (by simp_all; try omega) (by simp_all; try omega) (by simp_all; try omega)
          · rw [hf]; exact key _ (k2 1 12 (by omega)) (by simp_all; try omega) (by simp_all; try omega) (by simp_all; try omega) (by simp_all; try omega) (by simp_all; try omega) (by simp_all; try omega) (by simp_all; try omega) (by simp_all; try omega) (by simp_all; try omega)
          · rw [hf]; exact key _ (k2 1 13 (by omega)) (by simp_all; try omega) (by simp_all; try omega) (by simp_all; try omega) (by simp_all; try omega) (by simp_all; try omega) (by simp_all; try omega) (by simp_all; try omega) (by simp_all; try omega) (by simp_all; try omega)
          · rw [hf]; exact key _ (k2 1 14 (by omega)) (by simp_all; try omega) (by simp_all; try omega) (by simp_all; try omega) (by simp_all; try omega) (by simp_all; try omega) (by simp_all; try omega) (by simp_all; try omega) (by simp_all; try omega) (by simp_all; try omega)
      · rw [if_neg o2]
        by_cases o4 : op = 4
        · subst o4
          rw [if_pos rfl]
          rcases (show _ from fTwo 8 5 15 16 st) with hf | hf | hf <;> unfold lTouch
          · rw [hf]; exact key _ (k1 2) (by simp_all; try omega) (by simp_all; try omega) (by simp_all; try omega) (by simp_all; try omega) (by simp_all; try omega) (by simp_all; try omega) (by simp_all; try omega) (by simp_all; try omega) (by simp_all; try omega)
          · rw [hf]; exact key _ (k2 2 15 (by omega)) (by simp_all; try omega) (by simp_all; try omega) (by simp_all; try omega) (by simp_all; try omega) (by simp_all; try omega) (by simp_all; try omega) (by simp_all; try omega) (by simp_all; try omega) (by simp_all; try omega)
          · rw [hf]; exact key _ (k2 2 16 (by omega)) (by simp_all; try omega) (by simp_all; try omega) (by simp_all; try omega) (by simp_all; try omega) (by simp_all; try omega) (by simp_all; try omega) (by simp_all; try omega) (by simp_all; try omega) (by simp_all; try omega)
        · rw [if_neg o4]
          by_cases o6 : op = 6
          · subst o6
            rw [if_pos rfl]
            exact key _ (k1 3) (by simp_all; try omega) (by simp_all; try omega) (by simp_all; try omega) (by simp_all; try omega) (by simp_all; try omega) (by simp_all; try omega) (by simp_all; try omega) (by simp_all; try omega) (by simp_all; try omega)
          · rw [if_neg o6]
            by_cases o5 : op = 5
            · subst o5
              rw [if_pos rfl]
              rcases (show _ from fTwo 9 5 6 7 st) with hf | hf | hf <;> unfold lDelete
              · rw [hf]; exact key _ (k0) (by simp_all; try omega) (by simp_all; try omega) (by simp_all; try omega) (by simp_all; try omega) (by simp_all; try omega) (by simp_all; try omega) (by simp_all; try omega) (by simp_all; try omega) (by simp_all; try omega)
              · rw [hf]; exact key _ (k1 6) (by simp_all; try omega) (by simp_all; try omega) (by simp_all; try omega) (by simp_all; try omega) (by simp_all; try omega) (by simp_all; try omega) (by simp_all; try omega) (by simp_all; try omega) (by simp_all; try omega)
              · rw [hf]; exact key _ (k1 7) (by simp_all; try omega) (by simp_all; try omega) (by simp_all; try omega) (by simp_all; try omega) (by simp_all; try omega) (by simp_all; try omega) (by simp_all; try omega) (by simp_all; try omega) (by simp_all; try omega)
            · rw [if_neg o5]
              by_cases o3 : op = 3
              · subst o3
                rw [if_pos rfl]
                cases down
                · rw [if_neg (by decide)]
                  rcases (show _ from fTwo 6 5 8 9 st) with hf | hf | hf <;> unfold lIncr
                  · rw [hf]; exact key _ (k0) (by simp_all; try omega) (by simp_all; try omega) (by simp_all; try omega) (by simp_all; try omega) (by simp_all; try omega) (by simp_all; try omega) (by simp_all; try omega) (by simp_all; try omega) (by simp_all; try omega)
                  · rw [hf]; exact key _ (k1 8) (by simp_all; try omega) (by simp_all; try omega) (by simp_all; try omega) (by simp_all; try omega) (by simp_all; try omega) (by simp_all; try omega) (by simp_all; try omega) (by simp_all; try omega) (by simp_all; try omega)
                  · rw [hf]; exact key _ (k1 9) (by simp_all; try omega) (by simp_all; try omega) (by simp_all; try omega) (by simp_all; try omega) (by simp_all; try omega) (by simp_all; try omega) (by simp_all; try omega) (by simp_all; try omega) (by simp_all; try omega)
                · rw [if_pos rfl]
                  rcases (show _ from fTwo 6 5 10 11 st) with hf | hf | hf <;> unfold lDecr
                  · rw [hf]; exact key _ (k0) (by simp_all; try omega) (by simp_all; try omega) (by simp_all; try omega) (by simp_all; try omega) (by simp_all; try omega) (by simp_all; try omega) (by simp_all; try omega) (by simp_all; try omega) (by simp_all; try omega)
                  · rw [hf]; exact key _ (k1 10) (by simp_all; try omega) (by simp_all; try omega) (by simp_all; try omega) (by simp_all; try omega) (by simp_all; try omega) (by simp_all; try omega) (by simp_all; try omega) (by simp_all; try omega) (by simp_all; try omega)
                  · rw [hf]; exact key _ (k1 11) (by simp_all; try omega) (by simp_all; try omega) (by simp_all; try omega) (by simp_all; try omega) (by simp_all; try omega) (by simp_all; try omega) (by simp_all; try omega) (by simp_all; try omega) (by simp_all; try omega)
              · rw [if_neg o3]
                exact key _ (k0) (by simp_all; try omega) (by simp_all; try omega) (by simp_all; try omega) (by simp_all; try omega) (by simp_all; try omega) (by simp_all; try omega) (by simp_all; try omega) (by simp_all; try omega) (by simp_all; try omega)
end Go.Proofs.YtjfkfnlnjklcdaaDoor
