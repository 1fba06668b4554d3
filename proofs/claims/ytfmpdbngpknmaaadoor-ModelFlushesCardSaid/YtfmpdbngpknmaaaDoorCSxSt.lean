/- A walk through decided branches, which stops at open ones; lean where many guards stand in a row. -/
import Derived.Test.YtfmpdbngpknmaaaDoorBB
namespace Go.Proofs.YtfmpdbngpknmaaaDoor
set_option linter.unusedSimpArgs false
set_option linter.unusedVariables false
open Go.RowKit
def VT (C : Cx) (ctr : Ctr) (rs : List ResultVar) : Bool → Nat → List KI → Nat → List (Nat × SV) → List EN → Prop
  | false, _, k, nt, sl, en => Run C k nt sl en
  | true, 0, k, nt, sl, en => Run C k nt sl en
  | true, _ + 1, [], nt, sl, en => Run C [] nt sl en
  | true, n + 1, .blk _ :: k, nt, sl, en => VT C ctr rs true n k nt sl en
  | true, n + 1, .ops _ [] :: k, nt, sl, en => VT C ctr rs true n k nt (trimS C.kp sl) en
  | true, n + 1, .ops all (⟨dst, op, ty, pos, af, none⟩ :: r) :: k, nt, sl, en =>
    opK C.P ctr nt (VT C ctr rs true n (.ops all r :: k) nt) (Run C (.ops all (⟨dst, op, ty, pos, af, none⟩ :: r) :: k) nt sl en) dst sl en op
  | true, n + 1, .ops all (⟨dst, op, ty, pos, af, some (j, b)⟩ :: r) :: k, nt, sl, en =>
    match nthS all j with
    | some ⟨some d, _, _, _, _, _⟩ => match getS sl d with
      | some (.c (.b x)) => match x, b with
        | true, true => opG (x || !x) C.P ctr nt (VT C ctr rs (x || !x) n (.ops all r :: k) nt) (Run C (.ops all (⟨dst, op, ty, pos, af, some (j, b)⟩ :: r) :: k) nt sl en) dst sl en op
        | false, false => opG (x || !x) C.P ctr nt (VT C ctr rs (x || !x) n (.ops all r :: k) nt) (Run C (.ops all (⟨dst, op, ty, pos, af, some (j, b)⟩ :: r) :: k) nt sl en) dst sl en op
        | true, false => putG (x || !x) nt (VT C ctr rs (x || !x) n (.ops all r :: k) nt) (Run C (.ops all (⟨dst, op, ty, pos, af, some (j, b)⟩ :: r) :: k) nt sl en) dst (.c .u) sl en
        | false, true => putG (x || !x) nt (VT C ctr rs (x || !x) n (.ops all r :: k) nt) (Run C (.ops all (⟨dst, op, ty, pos, af, some (j, b)⟩ :: r) :: k) nt sl en) dst (.c .u) sl en
      | some (.c .u) => putK nt (VT C ctr rs true n (.ops all r :: k) nt) (Run C (.ops all (⟨dst, op, ty, pos, af, some (j, b)⟩ :: r) :: k) nt sl en) dst (.c .u) sl en
      | _ => Run C (.ops all (⟨dst, op, ty, pos, af, some (j, b)⟩ :: r) :: k) nt sl en
    | _ => Run C (.ops all (⟨dst, op, ty, pos, af, some (j, b)⟩ :: r) :: k) nt sl en
  | true, n + 1, .code .skip :: k, nt, sl, en => VT C ctr rs true n k nt sl en
  | true, n + 1, .code (.seq a b) :: k, nt, sl, en => VT C ctr rs true n (.code a :: .code b :: k) nt sl en
  | true, n + 1, .code (.block id c) :: k, nt, sl, en => VT C ctr rs true n (.code c :: .blk id :: k) nt sl en
  | true, n + 1, .code (.exit id) :: k, nt, sl, en => match unw id k with
    | some k' => VT C ctr rs true n k' nt sl en
    | none => Run C (.code (.exit id) :: k) nt sl en
  | true, n + 1, .code (.cond c a b) :: k, nt, sl, en => match ev sl c with
    | some (.c (.b x)) => match x with
      | true => VT C ctr rs (x || !x) n (.code a :: k) nt sl en
      | false => VT C ctr rs (x || !x) n (.code b :: k) nt sl en
    | _ => Run C (.code (.cond c a b) :: k) nt sl en
  | true, n + 1, .code (.region _ ops false) :: k, nt, sl, en => VT C ctr rs true n (.ops ops.toList ops.toList :: k) nt sl en
  | true, _ + 1, .code .ret :: k, nt, sl, en => match resS C.P sl en rs with
    | some l => Fin C rs (resV l) en
    | none => Run C (.code .ret :: k) nt sl en
  | true, _ + 1, k, nt, sl, en => Run C k nt sl en

section
variable {C : Cx} {ρ : Nat → RE} {nt : Nat} {sl : List (Nat × SV)} {en : List EN} {a : Act} {w : World}
variable {K : Act → World → Prop} {Q : Exit → Act → World → Prop}
theorem VT_ok {ctr : Ctr} (hctr : CtrOk C ctr) {rs : List ResultVar} : ∀ (go : Bool) (n : Nat) (k : List KI) (sl : List (Nat × SV)) (en : List EN), VT C ctr rs go n k nt sl en → Run C k nt sl en
  | false, _, k, sl, en, h => by simpa only [VT] using h
  | true, 0, k, sl, en, h => h
  | true, n + 1, [], sl, en, h => h
  | true, n + 1, .blk id :: k, sl, en, h => fun ρ a w hr => VT_ok hctr true n k sl en h ρ a w hr
  | true, n + 1, .ops all [] :: k, sl, en, h => fun ρ a w hr => VT_ok hctr true n k _ en h ρ a w (hr.trim _)
  | true, n + 1, .ops all (⟨dst, op, ty, pos, af, none⟩ :: r) :: k, sl, en, h => fun ρ a w hr => by
    rcases opK_ok hctr (o := ⟨dst, op, ty, pos, af, none⟩) (K := wpList C.P all.toArray (KQ C k) r) (Q := KQ C k) h hr (fun sl' en' ρ' a' w' hk hr' => VT_ok hctr true n _ sl' en' hk ρ' a' w' hr') with hst | hwp
    · exact hst ρ a w hr
    · rw [KQ_ops]
      unfold wpList
      rw [if_pos (by simp [Region.wanted])]
      exact .inl hwp
  | true, n + 1, .ops all (⟨dst, op, ty, pos, af, some (j, b)⟩ :: r) :: k, sl, en, h => fun ρ a w hr => by
    have skip : ∀ sl', Rep C ρ nt sl' en a w → Region.wanted ⟨dst, op, ty, pos, af, some (j, b)⟩ (yielded all.toArray a.tmps) = false →
        putK nt (VT C ctr rs true n (.ops all r :: k) nt) (Run C (.ops all (⟨dst, op, ty, pos, af, some (j, b)⟩ :: r) :: k) nt sl en) dst (.c .u) sl' en → KQ C (.ops all (⟨dst, op, ty, pos, af, some (j, b)⟩ :: r) :: k) .normal a w := by
      intro sl' hr' hw hp
      rcases putK_ok hp hr' (v := .c .u) trivial with hst | ⟨sl'', hk, hr''⟩
      · exact hst ρ a w hr
      · rw [KQ_ops]
        unfold wpList
        rw [if_neg (by rw [hw]; simp)]
        exact VT_ok hctr true n _ sl'' en hk ρ _ w hr''
    simp only [VT] at h
    split at h <;> try exact h ρ a w hr
    rename_i d _ _ _ _ _ hj
    rw [nthS_eq] at hj
    have hy : ∀ v, a.tmps[d]? = some v → yielded all.toArray a.tmps j = (match v with | .bool b => some b | _ => none) := by
      intro v hv
      simp only [yielded, List.getElem?_toArray, hj, Option.bind_some, hv]
      cases v <;> rfl
    split at h <;> try exact h ρ a w hr
    · rename_i x hx
      have h1 := (hr.tm d _ hx).1
      have h2 := hy _ h1
      have go : ∀ (hxb : x = b), opK C.P ctr nt (VT C ctr rs true n (.ops all r :: k) nt) (Run C (.ops all (⟨dst, op, ty, pos, af, some (j, b)⟩ :: r) :: k) nt sl en) dst sl en op → KQ C (.ops all (⟨dst, op, ty, pos, af, some (j, b)⟩ :: r) :: k) .normal a w := by
        intro hxb ha
        subst hxb
        rcases opK_ok hctr (o := ⟨dst, op, ty, pos, af, some (j, x)⟩) (K := wpList C.P all.toArray (KQ C k) r) (Q := KQ C k) ha hr (fun sl' en' ρ' a' w' hk hr' => VT_ok hctr true n _ sl' en' hk ρ' a' w' hr') with hst | hwp
        · exact hst ρ a w hr
        · rw [KQ_ops]
          unfold wpList
          rw [if_pos (by simp [Region.wanted, h2, SV.den, SC.den])]
          exact .inl hwp
      have no : ∀ (hxb : x ≠ b), putK nt (VT C ctr rs true n (.ops all r :: k) nt) (Run C (.ops all (⟨dst, op, ty, pos, af, some (j, b)⟩ :: r) :: k) nt sl en) dst (.c .u) sl en → KQ C (.ops all (⟨dst, op, ty, pos, af, some (j, b)⟩ :: r) :: k) .normal a w := by
        intro hxb hb
        refine skip _ hr ?_ hb
        simp [Region.wanted, h2, SV.den, SC.den]
        exact fun e => hxb e
      cases x <;> cases b <;> simp only [Bool.or_self, Bool.not_true, Bool.not_false, Bool.or_true, Bool.or_false, Bool.true_or, Bool.false_or, opG, putG] at h
      · exact go rfl h
      · exact no (by decide) h
      · exact no (by decide) h
      · exact go rfl h
    · rename_i hx
      have h1 := (hr.tm d _ hx).1
      have h2 := hy _ h1
      refine skip _ hr ?_ h
      simp [Region.wanted, h2, SV.den, SC.den, undef]
  | true, n + 1, .code .skip :: k, sl, en, h => fun ρ a w hr => wp_skip (VT_ok hctr true n k sl en h ρ a w hr)
  | true, n + 1, .code (.seq x y) :: k, sl, en, h => fun ρ a w hr => wp_seq (VT_ok hctr true n (.code x :: .code y :: k) sl en h ρ a w hr)
  | true, n + 1, .code (.block id c) :: k, sl, en, h => fun ρ a w hr => wp_block (VT_ok hctr true n (.code c :: .blk id :: k) sl en h ρ a w hr)
  | true, n + 1, .code (.exit id) :: k, sl, en, h => fun ρ a w hr => by
    simp only [VT] at h
    split at h
    · rename_i k' hk
      exact wp_exit (unw_ok hk a w (VT_ok hctr true n k' sl en h ρ a w hr))
    · exact h ρ a w hr
  | true, n + 1, .code (.cond c x y) :: k, sl, en, h => fun ρ a w hr => by
    simp only [VT] at h
    split at h <;> try exact h ρ a w hr
    rename_i t ht
    obtain ⟨e1, _⟩ := hr.ev_ok _ _ ht
    refine wp_cond (t := t) e1 ?_
    cases t with
    | true => exact VT_ok hctr true n (.code x :: k) sl en h ρ a w hr
    | false => exact VT_ok hctr true n (.code y :: k) sl en h ρ a w hr
  | true, n + 1, .code (.region id ops draw) :: k, sl, en, h => fun ρ a w hr => by
    cases draw with
    | true => exact h ρ a w hr
    | false => exact wp_region_list (VT_ok hctr true n (.ops ops.toList ops.toList :: k) sl en h ρ a w hr)
  | true, n + 1, .code (.loop c) :: k, sl, en, h => h
  | true, n + 1, .code (.rangeFunc _ _ _ _) :: k, sl, en, h => h
  | true, n + 1, .code (.scope _) :: k, sl, en, h => h
  | true, n + 1, .code (.label _) :: k, sl, en, h => h
  | true, n + 1, .code (.goto _) :: k, sl, en, h => h
  | true, n + 1, .code .ret :: k, sl, en, h => fun ρ a w hr => by
    simp only [VT] at h
    split at h
    · rename_i l hl
      refine wp_ret (KQ_ret k a w (h ρ a w hr.hw hr.n0 ?_ hr.df fun fn hfn => ?_))
      · exact resV_wf (hr.res _ _ hl).2
      · subst hfn; exact (hr.resOk hl).1
    · exact h ρ a w hr
  | true, n + 1, .code (.refuse _) :: k, sl, en, h => h
theorem f00 (b : Bool) : (true || b) = true := rfl
theorem f01 (b : Bool) : (false || b) = b := rfl
end
end Go.Proofs.YtfmpdbngpknmaaaDoor
