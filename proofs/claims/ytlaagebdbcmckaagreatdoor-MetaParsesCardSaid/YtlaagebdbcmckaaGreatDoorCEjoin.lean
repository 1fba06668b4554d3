/- words.Join of words in memory, as a row of contracts. Printed by gen_ejoin.py. -/
import Derived.Test.YtlaagebdbcmckaaGreatDoorCEall
import Derived.Test.YtlaagebdbcmckaaGreatDoorCShelfJ
namespace Go.Proofs.YtlaagebdbcmckaaGreatDoor
set_option linter.unusedSimpArgs false
set_option linter.unusedVariables false
set_option linter.unusedSimpArgs false
set_option linter.unusedVariables false
set_option maxHeartbeats 8000000
open Go.RowKit
set_option maxRecDepth 100000
def joinW (ws : List (List UInt8)) : List UInt8 := Lib.join ws [32]
theorem join_w (bk o c : Nat) (ws : List (List UInt8)) (w : World) (hcells : ∀ (j : Nat) x, ws[j]? = some x → w.cell? ⟨bk, o + j, none⟩ = some (.string ⟨x.toArray⟩)) (hbk : bk < w.heap.size) (hN : ws.length ≤ 140737488355328) (hcap : ws.length ≤ c) (hlen : (joinW ws).length ≤ 140737488355328) :
    Calls Tryz.prog 81 #[.slice (some ⟨bk, o, none⟩) ws.length c, .string ⟨#[32]⟩] w fun e w' => e = .returned (.string ⟨(joinW ws).toArray⟩) ∧ Below w.heap.size w w' := by
  have hm : (ws.map fun x => (⟨x.toArray⟩ : ByteArray)).map (·.data.toList) = ws := by rw [List.map_map]; simp [Function.comp_def]
  have := Tryz.strings_Join bk o c (ws.map fun x => ⟨x.toArray⟩) ⟨#[32]⟩ w (fun j x hx => by
    rw [List.getElem?_map, Option.map_eq_some_iff] at hx
    obtain ⟨y, hy, rfl⟩ := hx
    exact hcells j y hy) hbk (by simpa using hN) (by simpa using hcap) (by rw [hm]; exact hlen)
  rw [hm, List.length_map] at this
  exact this
def rowSJoin (a : Option Addr) (ws : List (List UInt8)) : List SV → Option (Prop × SV)
  | [.c (.v (.slice a' n c)), .c (.s [32])] => some (a' = a ∧ n = ws.length ∧ n ≤ c ∧ n ≤ 140737488355328 ∧ (joinW ws).length ≤ 140737488355328, .c (.s (joinW ws)))
  | _ => none
def jnC (a : Option Addr) (ws : List (List UInt8)) : Ctr := fun f _ xs => match f with
  | 81 => rowSJoin a ws xs
  | _ => none
theorem jnC_ok {C : Cx} {a : Option Addr} {ws : List (List UInt8)} {g : Nat} (hP : C.P = Tryz.prog) (hW : ∀ w, Upd C.S C.w0 w → RawS w g a ws) : CtrOk C (jnC a ws) := by
  intro f en xs p v h hp ρ w hup hHp hHo hinj hwf
  unfold jnC at h
  split at h
  · rw [hP]
    refine ⟨fun args w => Tryz.call81 args w, ?_⟩
    unfold rowSJoin at h
    split at h <;> simp only [Option.some.injEq, Prod.mk.injEq, reduceCtorEq] at h
    rename_i a' n c
    obtain ⟨rfl, rfl⟩ := h
    obtain ⟨rfl, rfl, h1, h2, h3⟩ := hp
    refine ⟨trivial, ?_⟩
    have hr := hW w hup
    cases ws with
    | nil =>
      refine (Tryz.strings_Join_none a' c ⟨#[32]⟩ w).mono ?_
      rintro e w' ⟨rfl, rfl⟩
      exact ⟨rfl, Below.refl _ _⟩
    | cons x ws =>
      obtain ⟨b, o, rfl, hb, _, _⟩ := hr 0 x rfl
      refine join_w b o c (x :: ws) w (fun j y hy => ?_) hb h2 h1 h3
      obtain ⟨b', o', he, _, _, hc⟩ := hr j y hy
      cases he
      exact hc
  · cases h
theorem wjoin_w {w : World} {g : Nat} {a : Option Addr} {c : Nat} {ws : List (List UInt8)} (hr : RawS w g a ws) (h1 : ws.length ≤ c) (h2 : ws.length ≤ 140737488355328) (h3 : (joinW ws).length ≤ 140737488355328) :
    Calls Tryz.prog 61 #[.slice a ws.length c] w fun e w' => e = .returned (.string ⟨(joinW ws).toArray⟩) ∧ Below w.heap.size w w' := by
  refine calls_of_Run Tryz.func61 rfl kp61 (S := Non) (ρ := fun _ => ⟨0, [], [], 0, none⟩) (en := []) [.c (.v (.slice a ws.length c))] Tryz.ntmps61 (At.nil _ _ _) (by simp [SV.wf, SC.wf]) (by simp) ?_
  intro C hC hP hk
  have hctr := jnC_ok (g := g) hP (fun w' hu => by rw [hC] at hu; exact hr.upd (hu.mono fun _ _ h => h.elim))
  (refine VT_ok hctr (rs := res61) true 200 _ _ _ ?_; simp (maxSteps := 1000000) only [VT, jf, jg, jZ, ja, jd, je, VC, qA, qB, qC, qD, qE, qF, qG, qH, qI, qJ, qK, qL, qM, qN, qO, qP, qQ, qR, qS, qT, qU, qV, qW, qX, qY, qZ, qe, qf, qg, qh, qj, qk, ql, qm, qn, qo, qp, qq, q0t, qu, qv, ev, qw, qy, qz, zA, zB, zC, zD, zE, zF, zG, zH, zI, zJ, TE.sv, zK, zL, zM, ↓reduceIte, reduceCtorEq, Value.oneCell', Nat.reduceEqDiff, Nat.reduceAdd, Nat.reduceLT, Nat.reduceBEq, Nat.reduceSub, Nat.reduceLeDiff, zP, zQ, zR, zS, zT, zU, zV, zW, zX, zY, zZ, za, zb, zc, zd, ze, zf, zg, zh, zi, zj, zk, zl, zm, zn, zo, zp, zq, zr, zt, zu, zw, zx, zy, zz, cE, jA, jB, hap, killE, deadOf, rwE, cD, cO, jC, jD, jE, jF, jG, jH, jI, jJ, jK, jL, jM, jN, jO, jP, jQ, jR, jS, jT, jU, jV, jW, jX, jY, hP, hk, res61, kp61, jnC, rowSJoin])
  exact ⟨⟨h1, h2, h3⟩, Fin_ro (v := .c (.s (joinW ws))) hC hres61 rfl trivial⟩
def strsOf : List SC → Option (List (List UInt8))
  | [] => some []
  | .s x :: l => match strsOf l with
    | some r => some (x :: r)
    | none => none
  | _ :: _ => none
theorem strsOf_eq : ∀ {l : List SC} {ws : List (List UInt8)}, strsOf l = some ws → l = ws.map .s
  | [], ws, h => by
    simp only [strsOf, Option.some.injEq] at h
    subst h; rfl
  | x :: l, ws, h => by
    unfold strsOf at h
    split at h
    · rename_i he; cases he
    · rename_i y t he
      split at h
      · rename_i r hr
        simp only [Option.some.injEq] at h
        obtain ⟨rfl, rfl⟩ := List.cons.inj he
        subst h
        rw [List.map_cons, strsOf_eq hr]
      · cases h
    · cases h
theorem strsOf_map : ∀ ws : List (List UInt8), strsOf (ws.map .s) = some ws
  | [] => rfl
  | x :: ws => by simp only [List.map_cons, strsOf, strsOf_map ws]
def rowJoinR (en : List EN) : List SV → Option (Prop × SV)
  | [.c (.rw N n)] => match zD en N with
    | some ⟨(t, o, iv), cells, _⟩ => match strsOf cells with
      | some ws => some (t = 9 ∧ o = 0 ∧ iv = rowP 1 n cells.length ∧ n = ws.length ∧ n ≤ 140737488355328 ∧ (joinW ws).length ≤ 140737488355328, .c (.s (joinW ws)))
      | none => none
    | none => none
  | [.c (.sl c 0 n m)] => match zD en c with
    | some ⟨(t, o, iv), cells, _⟩ => match strsOf cells with
      | some ws => some (t = 9 ∧ o = 0 ∧ iv = whole ∧ n = ws.length ∧ n ≤ m ∧ n ≤ 140737488355328 ∧ (joinW ws).length ≤ 140737488355328, .c (.s (joinW ws)))
      | none => none
    | none => none
  | _ => none
theorem rowJoinR_ok {ρ : Nat → RE} {en : List EN} {w : World} {xs : List SV} {p : Prop} {v : SV} (h : rowJoinR en xs = some (p, v)) (hp : p) (hHp : Hp ρ (· < en.length) en w) (hHo : Ho ρ (· < en.length) en) :
    v.wf (· < en.length) ∧ Calls Tryz.prog 61 (xs.map (SV.den ρ)).toArray w fun e w' => e = .returned (v.den ρ) ∧ Below w.heap.size w w' := by
  have cell : ∀ {N : Nat} {ty : TypeId × Nat × (RE → Prop)} {ws : List (List UInt8)} {mu : Bool}, N < en.length → zD en N = some ⟨ty, ws.map .s, mu⟩ → (ρ N).pre = [] → ∀ (k : Nat) x, ws[k]? = some x → w.cell? ⟨(ρ N).blk, 0 + k, none⟩ = some (.string ⟨x.toArray⟩) := by
    intro N ty ws mu lN hN hpre k x hx
    have hf : (ws.map SC.s)[k]? = some (.s x) := by rw [List.getElem?_map, hx]; rfl
    have := hHp.cellAt lN hN hf
    rw [hpre] at this
    rw [← show (w.cell? ⟨(ρ N).blk, ([] : List Value).length + k, none⟩) = w.cell? ⟨(ρ N).blk, 0 + k, none⟩ from rfl]
    exact this
  unfold rowJoinR at h
  split at h
  · rename_i N n
    split at h <;> try cases h
    rename_i t o iv cells mu hN
    split at h <;> simp only [Option.some.injEq, Prod.mk.injEq, reduceCtorEq] at h
    rename_i ws hs
    obtain ⟨rfl, rfl⟩ := h
    obtain ⟨rfl, rfl, rfl, rfl, hn, hj⟩ := hp
    have hc := strsOf_eq hs
    subst hc
    have lN : N < en.length := by rw [nthS_eq] at hN; exact (List.getElem?_eq_some_iff.1 hN).1
    obtain ⟨_, hL, hO⟩ := hHo N _ _ _ lN hN
    refine ⟨trivial, ?_⟩
    rcases hO with ⟨h1, h2, h3, h4, h5⟩ | ⟨h1, h2, h3⟩
    · have e : (SC.rw N ws.length).den ρ = .slice (some ⟨(ρ N).blk, 0, none⟩) ws.length (ρ N).cap := by simp only [SC.den]; rw [rwOf_on h1]
      have := wjoin_w (w := w) (g := w.heap.size) (a := some ⟨(ρ N).blk, 0, none⟩) (c := (ρ N).cap) (ws := ws) (fun k x hx => by
        have hcl := cell lN hN h2 k x hx
        have hb := Go.block_lt_of_cell hcl
        exact ⟨_, 0, rfl, hb, Nat.ne_of_lt hb, hcl⟩) h4 hn hj
      show Calls _ _ #[_] _ _
      rw [show (SV.c (SC.rw N ws.length)).den ρ = _ from e]
      exact this
    · have hw0 : ws = [] := List.eq_nil_of_length_eq_zero h2
      subst hw0
      have e : (SC.rw N 0).den ρ = .slice none 0 0 := by simp only [SC.den]; rw [rwOf_off h1]
      have := wjoin_w (w := w) (g := w.heap.size) (a := none) (c := 0) (ws := []) (fun k x hx => by simp at hx) (Nat.le_refl _) (by simp) hj
      show Calls _ _ #[_] _ _
      rw [show (SV.c (SC.rw N ([] : List (List UInt8)).length)).den ρ = _ from e]
      exact this
  · rename_i c n m
    split at h <;> try cases h
    rename_i t o iv cells mu hN
    split at h <;> simp only [Option.some.injEq, Prod.mk.injEq, reduceCtorEq] at h
    rename_i ws hs
    obtain ⟨rfl, rfl⟩ := h
    obtain ⟨rfl, rfl, rfl, rfl, hnm, hn, hj⟩ := hp
    have hc := strsOf_eq hs
    subst hc
    have lN : c < en.length := by rw [nthS_eq] at hN; exact (List.getElem?_eq_some_iff.1 hN).1
    obtain ⟨_, h1, h2⟩ := hHo c _ _ _ lN hN
    refine ⟨trivial, ?_⟩
    have e : (SC.sl c 0 ws.length m).den ρ = .slice (some ⟨(ρ c).blk, 0, none⟩) ws.length m := by simp only [SC.den, h1]; rfl
    have := wjoin_w (w := w) (g := w.heap.size) (a := some ⟨(ρ c).blk, 0, none⟩) (c := m) (ws := ws) (fun k x hx => by
      have hcl := cell lN hN h1 k x hx
      have hb := Go.block_lt_of_cell hcl
      exact ⟨_, 0, rfl, hb, Nat.ne_of_lt hb, hcl⟩) hnm hn hj
    show Calls _ _ #[_] _ _
    rw [show (SV.c (SC.sl c 0 ws.length m)).den ρ = _ from e]
    exact this
  · cases h
end Go.Proofs.YtlaagebdbcmckaaGreatDoor
