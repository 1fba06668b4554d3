/- A walk: values told in another way, where a fact on where entries lie makes them the same; a row as a slice with a room that is a letter. No program in sight. -/
import Derived.Test.YtlaagebdbcmckaaGreatDoorBB
namespace Go.Proofs.YtlaagebdbcmckaaGreatDoor
set_option linter.unusedSimpArgs false
set_option linter.unusedVariables false
open Go.RowKit
section
variable {C : Cx} {nt : Nat} {sl : List (Nat × SV)} {en : List EN} {k : List KI}
def aliE (Φ : (Nat → RE) → Prop) (n : Nat) : List EN → List EN → Prop
  | [], [] => True
  | e :: l, e' :: l' => (e.ty = e'.ty ∧ e.mu = e'.mu ∧ (∀ ρ : Nat → RE, Φ ρ → dens ρ e'.cells = dens ρ e.cells) ∧ (wfs (· < n) e.cells → wfs (· < n) e'.cells)) ∧ aliE Φ n l l'
  | _, _ => False
theorem aliE_len {Φ : (Nat → RE) → Prop} {n : Nat} : ∀ {l l' : List EN}, aliE Φ n l l' → l.length = l'.length
  | [], [], _ => rfl
  | _ :: l, _ :: l', h => by simp [aliE_len h.2]
  | [], _ :: _, h => h.elim
  | _ :: _, [], h => h.elim
theorem aliE_get {Φ : (Nat → RE) → Prop} {n : Nat} : ∀ {l l' : List EN}, aliE Φ n l l' → ∀ c e', zD l' c = some e' → ∃ e, zD l c = some e ∧ e.ty = e'.ty ∧ e.mu = e'.mu ∧ (∀ ρ : Nat → RE, Φ ρ → dens ρ e'.cells = dens ρ e.cells) ∧ (wfs (· < n) e.cells → wfs (· < n) e'.cells)
  | [], [], _, c, e', h => by simp [zD] at h
  | e :: l, e' :: l', h, 0, x, hx => by
    simp only [zD, Option.some.injEq] at hx; subst hx
    exact ⟨e, rfl, h.1.1, h.1.2.1, h.1.2.2.1, h.1.2.2.2⟩
  | e :: l, e' :: l', h, c + 1, x, hx => by
    simp only [zD] at hx ⊢
    exact aliE_get h.2 c x hx
  | [], _ :: _, h, _, _, _ => h.elim
  | _ :: _, [], h, _, _, _ => h.elim
def aliS (Φ : (Nat → RE) → Prop) (n : Nat) (sl : List (Nat × SV)) : List (Nat × SV) → Prop
  | [] => True
  | (d, v') :: r => (∃ v, qy sl d = some v ∧ (∀ ρ : Nat → RE, Φ ρ → v'.den ρ = v.den ρ) ∧ (v.wf (· < n) → v'.wf (· < n))) ∧ aliS Φ n sl r
theorem aliS_get {Φ : (Nat → RE) → Prop} {n : Nat} {sl : List (Nat × SV)} : ∀ {s : List (Nat × SV)}, aliS Φ n sl s → ∀ d v', qy s d = some v' → ∃ v, qy sl d = some v ∧ (∀ ρ : Nat → RE, Φ ρ → v'.den ρ = v.den ρ) ∧ (v.wf (· < n) → v'.wf (· < n))
  | [], _, d, v, h => by simp [qy] at h
  | (e, u) :: s, hs, d, v, h => by
    simp only [qy] at h
    split at h
    · rename_i e'; subst e'; simp only [Option.some.injEq] at h; subst h; exact hs.1
    · exact aliS_get hs.2 d v h
theorem Rep.alias {Φ : (Nat → RE) → Prop} {ρ : Nat → RE} {a : Act} {w : World} {en' : List EN} {sl' : List (Nat × SV)} (hr : Rep C ρ nt sl en a w) (hΦ : Φ ρ) (hen : aliE Φ (zG en) en en') (hsl : aliS Φ (zG en) sl sl') : Rep C ρ nt sl' en' a w := by
  rw [lenN_eq] at hen hsl
  have hlen := aliE_len hen
  have hdd : ∀ c, c < en'.length → deadE (ρ c) (zD en' c) = false → deadE (ρ c) (zD en c) = false := by
    intro c hc hd
    obtain ⟨e', he'⟩ : ∃ e', zD en' c = some e' := ⟨_, by rw [nthS_eq]; exact List.getElem?_eq_getElem hc⟩
    obtain ⟨t1, c1, m1⟩ := e'
    obtain ⟨⟨t0, c0, m0⟩, q1, q2, _⟩ := aliE_get hen c _ he'
    simp only at q2; subst q2
    exact (deadE_of q1).2 ((deadE_of he').1 hd)
  refine ⟨⟨?_, ?_, ?_, hr.hw.up, ?_, hr.hw.ini⟩, ?_, hr.sz, hr.df, by have := hr.n0; omega⟩
  · intro c t cells mu' hc he
    obtain ⟨⟨t0, c0, m0⟩, q1, q2, q3, q4, q5⟩ := aliE_get hen c _ he
    simp only at q2 q3 q4 q5
    subst q2; subst q3
    have hc : c < en'.length := hc
    have hh := hr.hw.hp c t0 c0 m0 (by show c < en.length; omega) q1
    have hd := q4 ρ hΦ
    have nil : c0 = [] → cells = [] := fun e => by rw [e] at hd; simpa [dens] using hd
    refine ⟨fun hl => by rw [hd]; exact hh.heap hl, ?_, fun hd' => ⟨nil (hh.dead hd').1, (hh.dead hd').2⟩, fun hn => nil (hh.non hn)⟩
    have := q5 hh.wf
    rwa [hlen] at this
  · intro c t cells mu' hc he
    obtain ⟨⟨t0, c0, m0⟩, q1, q2, q3, q4, q5⟩ := aliE_get hen c _ he
    simp only at q2 q4; subst q2
    have hc : c < en'.length := hc
    exact hr.hw.ho c t0 c0 m0 (by show c < en.length; omega) q1
  · intro c d hc hd h1 h2 h3
    have hc : c < en'.length := hc
    have hd : d < en'.length := hd
    exact hr.hw.inj c d (by show c < en.length; omega) (by show d < en.length; omega) (hdd c hc h1) (hdd d hd h2) h3
  · intro c t cells hc he
    obtain ⟨⟨t0, c0, m0⟩, q1, q2, q3, q4, q5⟩ := aliE_get hen c _ he
    simp only at q2 q3; subst q2; subst q3
    have hc : c < en'.length := hc
    exact hr.hw.mu c t0 c0 (by show c < en.length; omega) q1
  · intro d v' hd
    obtain ⟨v, q1, q2, q3⟩ := aliS_get hsl d v' hd
    obtain ⟨t1, t2⟩ := hr.tm d v q1
    rw [q2 ρ hΦ]
    refine ⟨t1, ?_⟩
    have := q3 t2
    rwa [hlen] at this
theorem Run_alias {M : Type} {Φ : M → (Nat → RE) → Prop} {en' : M → List EN} {sl' : M → List (Nat × SV)} (hΦ : ∀ ρ w, Hw C ρ (· < en.length) en w → ∃ m, Φ m ρ) (hen : ∀ m, aliE (Φ m) (zG en) en (en' m)) (hsl : ∀ m, aliS (Φ m) (zG en) sl (sl' m)) (h : ∀ m, Run C k nt (sl' m) (en' m)) : Run C k nt sl en := by
  intro ρ a w hr
  obtain ⟨m, hm⟩ := hΦ ρ w hr.hw
  exact h m ρ a w (hr.alias hm (hen m) (hsl m))
theorem row_sl {e z n N : Nat} {cells : List SC} {ρ : Nat → RE} {w : World} (hw : Hw C ρ (· < en.length) en w) (hN : zD en N = some (rwE e z n cells)) (hne : n ≠ 0) : ∃ m : { m : Nat // n ≤ m ∧ m ≤ maxLen }, (SC.sl N 0 n m.1).den ρ = (SC.rw N n).den ρ := by
  have lN : N < en.length := by rw [nthS_eq] at hN; exact (List.getElem?_eq_some_iff.1 hN).1
  obtain ⟨_, _, h⟩ := hw.ho N _ _ _ lN hN
  rcases h with ⟨h1, h2, h3, h4, h5⟩ | ⟨h1, h2, h3⟩
  · refine ⟨⟨(ρ N).cap, h4, h5⟩, ?_⟩
    simp only [SC.den, h2, List.length_nil, Nat.zero_add]
    rw [rwOf_on h1]
  · exact absurd h2 hne
end
end Go.Proofs.YtlaagebdbcmckaaGreatDoor
