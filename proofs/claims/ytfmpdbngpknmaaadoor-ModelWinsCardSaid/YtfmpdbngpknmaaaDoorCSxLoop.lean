/- A walk forgets entries and slots that are no longer needed; operations met by hand, guarded ones too. -/
import Derived.Test.YtfmpdbngpknmaaaDoorBB
namespace Go.Proofs.YtfmpdbngpknmaaaDoor
set_option linter.unusedSimpArgs false
set_option linter.unusedVariables false
open Go.RowKit

section
variable {C : Cx} {nt : Nat} {sl : List (Nat × SV)} {en : List EN} {k : List KI}
def keepS (f : Nat → Nat) (n : Nat) (sl : List (Nat × SV)) : List (Nat × SV) → Prop
  | [] => True
  | (d, v) :: r => (v.wf (· < n) ∧ ∃ v', getS sl d = some v' ∧ ∀ ρ : Nat → RE, v.den (fun c => ρ (f c)) = v'.den ρ) ∧ keepS f n sl r
theorem keepS_get {f : Nat → Nat} {n : Nat} {sl : List (Nat × SV)} : ∀ {s : List (Nat × SV)}, keepS f n sl s → ∀ d v, getS s d = some v → v.wf (· < n) ∧ ∃ v', getS sl d = some v' ∧ ∀ ρ : Nat → RE, v.den (fun c => ρ (f c)) = v'.den ρ
  | [], _, d, v, h => by simp [getS] at h
  | (e, u) :: s, hs, d, v, h => by
    simp only [getS] at h
    split at h
    · rename_i e'; subst e'; simp only [Option.some.injEq] at h; subst h; exact hs.1
    · exact keepS_get hs.2 d v h
/-- the entries that stay, each with its cells as they are named anew -/
def keepE (f : Nat → Nat) (n : Nat) (en : List EN) : Nat → List EN → Prop
  | _, [] => True
  | i, e :: r => (∃ cs, nthS en (f i) = some ⟨e.ty, cs, e.mu⟩ ∧ (∀ ρ : Nat → RE, dens (fun c => ρ (f c)) e.cells = dens ρ cs) ∧ wfs (· < n) e.cells) ∧ keepE f n en (i + 1) r
theorem keepE_get {f : Nat → Nat} {n : Nat} {en : List EN} : ∀ (l : List EN) (i c : Nat) (e : EN), keepE f n en i l → nthS l c = some e → ∃ cs, nthS en (f (i + c)) = some ⟨e.ty, cs, e.mu⟩ ∧ (∀ ρ : Nat → RE, dens (fun c => ρ (f c)) e.cells = dens ρ cs) ∧ wfs (· < n) e.cells
  | [], i, c, e, _, h => by simp [nthS] at h
  | x :: l, i, 0, e, hk, h => by
    simp only [nthS, Option.some.injEq] at h; subst h; exact hk.1
  | x :: l, i, c + 1, e, hk, h => by
    have := keepE_get l (i + 1) c e hk.2 (by simpa [nthS] using h)
    rwa [show i + 1 + c = i + (c + 1) by omega] at this
theorem Rep.keep {ρ : Nat → RE} {a : Act} {w : World} {f : Nat → Nat} {enK : List EN} {slK : List (Nat × SV)} (hr : Rep C ρ nt sl en a w) (hn0 : C.n0 = 0) (hf : ∀ c d, c < enK.length → d < enK.length → f c = f d → c = d)
    (hen : keepE f enK.length en 0 enK) (hsl : keepS f enK.length sl slK) : Rep C (fun c => ρ (f c)) nt slK enK a w := by
  have hlt : ∀ c ty cells mu, nthS enK c = some ⟨ty, cells, mu⟩ → ∃ cs, nthS en (f c) = some ⟨ty, cs, mu⟩ ∧ (∀ ρ : Nat → RE, dens (fun c => ρ (f c)) cells = dens ρ cs) ∧ wfs (· < enK.length) cells ∧ f c < en.length := by
    intro c ty cells mu hc
    obtain ⟨cs, h1, h2, h3⟩ := keepE_get enK 0 c _ hen hc
    rw [Nat.zero_add] at h1
    exact ⟨cs, h1, h2, h3, by rw [nthS_eq] at h1; exact (List.getElem?_eq_some_iff.1 h1).1⟩
  refine ⟨⟨?_, ?_, ?_, hr.hw.up, ?_, ?_⟩, ?_, hr.sz, hr.df, ?_⟩
  · intro c ty cells mu hc he
    obtain ⟨cs, q1, q2, q3, q4⟩ := hlt c ty cells mu he
    have h := hr.hw.hp (f c) ty cs mu q4 q1
    have hl : cs = [] → cells = [] := fun e => by
      have := congrArg List.length (q2 ρ)
      rw [e] at this
      simpa [dens] using this
    exact ⟨fun hh => by rw [h.heap hh, q2 ρ], q3, fun e => ⟨hl (h.dead e).1, (h.dead e).2⟩, fun e => hl (h.non e)⟩
  · intro c ty cells mu hc he
    obtain ⟨cs, q1, q2, q3, q4⟩ := hlt c ty cells mu he
    exact hr.hw.ho (f c) ty cs mu q4 q1
  · intro c d hc hd h1 h2 h3
    have g : ∀ x, x < enK.length → ∃ ty cells mu, nthS enK x = some ⟨ty, cells, mu⟩ := fun x hx => ⟨_, _, _, by rw [nthS_eq]; exact List.getElem?_eq_getElem hx⟩
    obtain ⟨ty, cells, mu, p⟩ := g c hc
    obtain ⟨ty', cells', mu', p'⟩ := g d hd
    obtain ⟨cs, q1, q2, q3, q4⟩ := hlt c _ _ _ p
    obtain ⟨cs', r1, r2, r3, r4⟩ := hlt d _ _ _ p'
    rw [deadE_of p] at h1; rw [deadE_of p'] at h2
    exact hf c d hc hd (hr.hw.inj (f c) (f d) q4 r4 ((deadE_of q1).2 h1) ((deadE_of r1).2 h2) h3)
  · intro c ty cells hc he
    obtain ⟨cs, q1, q2, q3, q4⟩ := hlt c ty cells true he
    exact hr.hw.mu (f c) ty cs q4 q1
  · intro c hc; rw [hn0] at hc; exact absurd hc (Nat.not_lt_zero _)
  · intro d v hd
    obtain ⟨h1, v', h2, h3⟩ := keepS_get hsl d v hd
    exact ⟨by rw [h3]; exact (hr.tm d v' h2).1, h1⟩
  · rw [hn0]; exact Nat.zero_le _
theorem Run_keep {f : Nat → Nat} {enK : List EN} {slK : List (Nat × SV)} (hn0 : C.n0 = 0) (hf : ∀ c d, c < enK.length → d < enK.length → f c = f d → c = d)
    (hen : keepE f enK.length en 0 enK) (hsl : keepS f enK.length sl slK) (h : Run C k nt slK enK) : Run C k nt sl en :=
  fun ρ a w hr => h _ a w (hr.keep hn0 hf hen hsl)

/-- a loop; its rounds are walked under a context of which the needed is told -/
theorem Run_loopD {ι : Type} {c : Code} {k : List KI} (slF : ι → List (Nat × SV)) (enF : ι → List EN) (μ : ι → Nat) (x0 : ι) (h0 : sub (slF x0) sl) (he0 : enF x0 = en)
    (round : ∀ (x : ι) (D : Cx), D.P = C.P → D.S = C.S → D.w0 = C.w0 → D.n0 = C.n0 → D.kp = C.kp → (∀ {P : Program} {fn : Func} {R : Ending → World → Prop}, Ctx C P fn R → Ctx D P fn R) →
      (∀ {id : Nat} {k' kk : List KI} {s : List (Nat × SV)} {e : List EN}, unw id kk = none → unw id k = some k' → Run C k' nt s e → Run D (.code (.exit id) :: kk) nt s e) →
      (∀ y s, μ y < μ x → sub (slF y) s → Run D [] nt s (enF y)) → Run D [.code c] nt (slF x) (enF x)) : Run C (.code (.loop c) :: k) nt sl en :=
  Run_loop slF enF μ x0 h0 he0 fun x J hJ => round x (lpC C k J) rfl rfl rfl rfl rfl (fun h => h.lp k J) (fun h1 h2 h3 => Run_lpExit h1 h2 h3) hJ

variable {dst : Option Nat} {op : Op} {ty : TypeId} {pos : String} {af : Array Edge} {all r : List Oper} {gd : Option (Nat × Bool)}
/-- the guard of an operation holds -/
def gdT (all : List Oper) (sl : List (Nat × SV)) : Option (Nat × Bool) → Bool
  | none => true
  | some (j, b) => match nthS all j with
    | some ⟨some d, _, _, _, _, _⟩ => match getS sl d with
      | some (.c (.b x)) => x == b
      | _ => false
    | _ => false
/-- an operation that computes or reads, met by hand; its guard holds -/
theorem Run_softG (v : SV) (hg : gdT all sl gd = true) (hx : ∀ ρ a w, Rep C ρ nt sl en a w → (execOp a.eval ⟨dst, op, ty, pos, af, gd⟩).run C.P w = .ok (.value (v.den ρ)) w ∧ v.wf (· < en.length)) (hd : ∀ d, dst = some d → d < nt) (hK : Run C (.ops all r :: k) nt (putSl dst v sl) en) :
    Run C (.ops all (⟨dst, op, ty, pos, af, gd⟩ :: r) :: k) nt sl en := by
  intro ρ a w hr
  obtain ⟨h1, h2⟩ := hx ρ a w hr
  have hwant : Region.wanted ⟨dst, op, ty, pos, af, gd⟩ (yielded all.toArray a.tmps) = true := by
    cases gd with
    | none => simp [Region.wanted]
    | some jb =>
      obtain ⟨j, b⟩ := jb
      simp only [gdT] at hg
      split at hg <;> try cases hg
      rename_i d _ _ _ _ _ hj
      split at hg <;> try cases hg
      rename_i x hx
      have e1 := (hr.tm d _ hx).1
      rw [nthS_eq] at hj
      have hxb : x = b := by simpa using hg
      subst hxb
      simp [Region.wanted, yielded, hj, e1, SV.den, SC.den]
  rw [KQ_ops]
  unfold wpList
  rw [if_pos hwant]
  left
  unfold Oper.wp
  rw [h1]
  simp only [Oper.upon]
  refine hK ρ _ w ?_
  cases dst with
  | none => exact hr
  | some d => exact hr.put (hd d rfl) h2
theorem Run_andG {d : Nat} {x y : Operand} {t : TypeId} {a m : Int} {t' : TypeId} (hg : gdT all sl gd = true) (hx : ev sl x = some (.c (.i .i64 a))) (hy : ev sl y = some (.c (.i .i64 m))) (h0 : 0 ≤ m) (h1 : m < 9223372036854775808) (hd : d < nt)
    (hK : ∀ z : Int, 0 ≤ z → z ≤ m → Run C (.ops all r :: k) nt ((d, .c (.i .i64 z)) :: sl) en) :
    Run C (.ops all (⟨some d, .binOp .and t x y t', ty, pos, af, gd⟩ :: r) :: k) nt sl en := by
  obtain ⟨k1, k2⟩ := and_le a m h0 h1
  refine Run_softG (.c (.i .i64 (IntKind.i64.wrap ((BitVec.ofInt 64 a &&& BitVec.ofInt 64 m).toNat : Int)))) hg ?_ (by rintro d' h; cases h; exact hd) (hK _ k1 k2)
  intro ρ act w hr
  refine ⟨?_, trivial⟩
  obtain ⟨e1, _⟩ := hr.ev_ok _ _ hx
  obtain ⟨e2, _⟩ := hr.ev_ok _ _ hy
  simp [execOp, e1, e2, SV.den, SC.den, eqGuard, binOp, Op.intBits]
  rfl
/-- two truths compared -/
def eqbV (op : BinOp) (x y : Bool) : Option Bool := match op with
  | .eql => some (x == y)
  | .neq => some (!(x == y))
  | _ => none
theorem Run_eqb (z : Bool) {d : Nat} {bop : BinOp} {x y : Operand} {t t' : TypeId} {a b : Bool} (hg : gdT all sl gd = true) (ht : C.P.underlying t = some .bool) (hx : ev sl x = some (.c (.b a))) (hy : ev sl y = some (.c (.b b))) (hz : eqbV bop a b = some z) (hd : d < nt)
    (hK : Run C (.ops all r :: k) nt ((d, .c (.b z)) :: sl) en) : Run C (.ops all (⟨some d, .binOp bop t x y t', ty, pos, af, gd⟩ :: r) :: k) nt sl en := by
  refine Run_softG (.c (.b z)) hg ?_ (by rintro d' h; cases h; exact hd) hK
  intro ρ act w hr
  refine ⟨?_, trivial⟩
  obtain ⟨e1, _⟩ := hr.ev_ok _ _ hx
  obtain ⟨e2, _⟩ := hr.ev_ok _ _ hy
  have hu : (underlying t).run C.P w = .ok .bool w := run_und ht
  have he : (Op.equal t (.bool a) (.bool b)).run C.P w = .ok (a == b) w := by
    unfold Op.equal Op.maxDepth
    rw [Op.equalIn]
    simp [hu]
  cases bop <;> simp only [eqbV, Option.some.injEq, reduceCtorEq] at hz <;> subst hz
  all_goals simp [execOp, e1, e2, SV.den, SC.den, eqGuard, binOp, he]
end
end Go.Proofs.YtfmpdbngpknmaaaDoor
