/- A region whose order is drawn: an invariant over every order that its edges allow. Plain order facts, and the operations' own laws at any set of entries that are there. -/
import Derived.Test.YtehfcboiimdkbaaGreatDoorBL
import Derived.Laws.StructEq
import Derived.DeepKeys
import Derived.Maps.AppendAt
import Derived.Laws.MakeOwn
import Derived.Laws.BytesString
namespace Go.Proofs.YtehfcboiimdkbaaGreatDoor
set_option linter.unusedSimpArgs false
set_option linter.unusedVariables false
open Go.RowKit
section
variable {P : Program} {ops : Array Oper} {Q : Exit → Act → World → Prop}
def unl : List Bool → Nat
  | [] => 0
  | b :: l => (if b then 0 else 1) + unl l
theorem unl_set : ∀ {l : List Bool} {i : Nat}, l[i]? = some false → unl (l.set i true) + 1 = unl l
  | [], i, h => by simp at h
  | b :: l, 0, h => by simp at h; subst h; simp [unl]; omega
  | b :: l, i + 1, h => by
    have := unl_set (l := l) (i := i) (by simpa using h)
    simp only [List.set_cons_succ, unl]; omega
theorem ready_un {listed : Array Bool} {i : Nat} (h : i ∈ Region.ready .any ops listed) : i < ops.size ∧ listed.getD i true = false ∧ ∃ o, ops[i]? = some o ∧ ∀ e ∈ o.after, Region.binds .any e = true → listed.getD e.on false = true := by
  unfold Region.ready at h
  simp only [List.mem_filter, List.mem_range, Bool.and_eq_true, Bool.not_eq_true'] at h
  obtain ⟨h1, h2, h3⟩ := h
  refine ⟨h1, h2, ops[i], by simp [h1], ?_⟩
  simp only [Array.getElem?_eq_getElem h1, Option.map_some, Option.getD_some] at h3
  intro e he hb
  rw [Array.all_eq_true_iff_forall_mem] at h3
  have := h3 e he
  simpa [hb] using this
theorem wpAny_of_inv (Inv : Array Bool → Act → World → Prop)
    (step : ∀ listed a w i, listed.size = ops.size → Inv listed a w → i ∈ Region.ready .any ops listed → wpOp P ops Q i (Inv (listed.setIfInBounds i true)) a w)
    (fin : ∀ listed a w, listed.size = ops.size → Inv listed a w → Region.ready .any ops listed = [] → Q .normal a w) :
    ∀ (fuel : Nat) (listed : Array Bool) (a : Act) (w : World), listed.size = ops.size → unl listed.toList ≤ fuel → Inv listed a w → wpAny P .any ops Q fuel listed a w
  | 0, listed, a, w, hs, hu, hi => by
    have hr : Region.ready .any ops listed = [] := by
      cases h : Region.ready .any ops listed with
      | nil => rfl
      | cons i l =>
        have hi : i ∈ Region.ready .any ops listed := by rw [h]; simp
        obtain ⟨h1, h2, _⟩ := ready_un hi
        have hg : listed.toList[i]? = some false := by
          have hlt : i < listed.size := by omega
          simp only [Array.getD_eq_getD_getElem?, Array.getElem?_eq_getElem hlt, Option.getD_some] at h2
          simp [hlt, h2]
        have := unl_set hg
        omega
    exact ⟨hr, fin listed a w hs hi hr⟩
  | fuel + 1, listed, a, w, hs, hu, hi => by
    refine ⟨fun hr => fin listed a w hs hi hr, fun i hir => ?_⟩
    obtain ⟨h1, h2, _⟩ := ready_un hir
    have hg : listed.toList[i]? = some false := by
      have hlt : i < listed.size := by omega
      simp only [Array.getD_eq_getD_getElem?, Array.getElem?_eq_getElem hlt, Option.getD_some] at h2
      simp [hlt, h2]
    have hun := unl_set hg
    exact wpOp_mono (fun a' w' h' => wpAny_of_inv Inv step fin fuel _ a' w' (by simpa using hs) (by rw [Array.toList_setIfInBounds]; omega) h') (step listed a w i hs hi hir)
end
def opT (o : Op) (x : Operand) : Prop := x ∈ o.operands.toList
theorem fillS_congr {fs : List (Nat × Nat × Bool)} {e1 e2 : Operand → Option SV} : ∀ (ps : List (Nat × Operand)) (l : List SC), (∀ x ∈ ps, e1 x.2 = e2 x.2) → qg fs e1 ps l = qg fs e2 ps l
  | [], l, _ => rfl
  | (i, x) :: r, l, h => by
    have h0 := h (i, x) (by simp)
    have hr : ∀ l, qg fs e1 r l = qg fs e2 r l := fun l => fillS_congr r l (fun y hy => h y (by simp [hy]))
    simp only [qg, h0, hr]
theorem capsS_congr {e1 e2 : Operand → Option SV} : ∀ (xs : List Operand), (∀ x ∈ xs, e1 x = e2 x) → qk e1 xs = qk e2 xs
  | [], _ => rfl
  | x :: r, h => by
    have h0 := h x (by simp)
    have hr := capsS_congr r (fun y hy => h y (by simp [hy]))
    simp only [qk, h0, hr]
theorem boundS_congr {e1 e2 : Operand → Option SV} {d : Int} {o : Option Operand} (h : ∀ x, o = some x → e1 x = e2 x) : ql e1 d o = ql e2 d o := by
  cases o with
  | none => rfl
  | some x => simp only [ql, h x rfl]
theorem softS_congr {P : Program} {rd : Rd} {en : List EN} {e1 e2 : Operand → Option SV} {op : Op} (h : ∀ x, opT op x → e1 x = e2 x) : qK P rd en e1 op = qK P rd en e2 op := by
  unfold opT at h
  cases op <;> simp only [qK] <;> simp only [Op.operands] at h
  case move x => rw [h x (by simp)]
  case assign x => rw [h x (by simp)]
  case pick c a b => rw [h c (by simp), h a (by simp), h b (by simp)]
  case build t ps => unfold qf; simp only [fillS_congr ps.toList _ (fun x hx => h x.2 (by simp; exact ⟨x.1, by simpa using hx⟩))]
  case load t a => rw [h a (by simp)]
  case nilCheck x => rw [h x (by simp)]
  case binOp b t x y t' => rw [h x (by simp), h y (by simp)]
  case unOp u t x => rw [h x (by simp)]
  case convert s t x => rw [h x (by simp)]
  case makeInterface t x => rw [h x (by simp)]
  case makeFunc fn first cap => rw [capsS_congr cap.toList (fun x hx => h x (by simp; exact .inr (by simpa using hx)))]
  case slice t x lo hi mx =>
    cases mx with
    | some m => rfl
    | none => simp only [h x (by simp), boundS_congr (o := lo) (fun y hy => h y (by simp [hy])), boundS_congr (o := hi) (fun y hy => h y (by simp [hy]))]
  case fieldAddr t x f => rw [h x (by simp)]
  case field t x f => rw [h x (by simp)]
  case indexAddr t x j => rw [h x (by simp), h j (by simp)]
  case index t x j => rw [h x (by simp), h j (by simp)]
  case extract x k => rw [h x (by simp)]
  case call c =>
    obtain ⟨callee, args, tys⟩ := c
    unfold qN
    split <;> try rfl
    · rename_i args tys hc
      cases hc
      split <;> try rfl
      rename_i x t hx ht
      rw [h x (by simp [Call.operands]; simpa using (by rw [hx]; simp : x ∈ args.toList))]
    · rename_i args tys hc
      cases hc
      split <;> try rfl
      rename_i x y hx
      rw [h x (by simp [Call.operands]; simpa using (by rw [hx]; simp : x ∈ args.toList)), h y (by simp [Call.operands]; simpa using (by rw [hx]; simp : y ∈ args.toList))]
    · rename_i args tys hc
      cases hc
      split <;> try rfl
      rename_i x y hx
      rw [h x (by simp [Call.operands]; simpa using (by rw [hx]; simp : x ∈ args.toList)), h y (by simp [Call.operands]; simpa using (by rw [hx]; simp : y ∈ args.toList))]
theorem softS_at {P : Program} {rd : Rd} {en : List EN} {e : Operand → Option SV} {rv : Operand → Value} {ρ : Nat → RE} {pr : Nat → Prop} {w : World} {o : Oper} {p : Prop} {v : SV} (h : qK P rd en e o.op = some (p, v)) (hp : p)
    (hev : ∀ x u, opT o.op x → e x = some u → rv x = u.den ρ ∧ u.wf pr) (hrd : RdOk rd w) (hh : Hp ρ pr en w) (hho : Ho ρ pr en) : (execOp rv o).run P w = .ok (.value (v.den ρ)) w ∧ v.wf pr := by
  classical
  have h2 := (softS_congr (P := P) (rd := rd) (en := en) (e1 := fun x => if opT o.op x then e x else none) (e2 := e) (op := o.op) (fun x hx => by simp [hx])).trans h
  refine softS_ok rfl h2 hp (fun x u hx => ?_) hrd hh hho
  split at hx
  · rename_i ho; exact hev x u ho hx
  · cases hx
section
variable {C : Cx} {ρ : Nat → RE} {pr : Nat → Prop} {en : List EN} {w : World}
theorem Hw.drew (h : Hw C ρ pr en w) : Hw C ρ pr en { w with drawn := w.drawn + 1 } := ⟨fun c ty cells mu hc he => ⟨(h.hp c ty cells mu hc he).heap, (h.hp c ty cells mu hc he).wf, (h.hp c ty cells mu hc he).dead, (h.hp c ty cells mu hc he).non⟩, h.ho, h.inj, ⟨h.up.os, h.up.tape, h.up.output, h.up.size, h.up.block⟩, h.mu, h.ini⟩
theorem Hw.allocAt (h : Hw C ρ pr en w) {c : Nat} {t : TypeId} (htd : t ≠ DEAD) {l : List SC} (hc : ¬ pr c) (hn : C.n0 ≤ c) (he : zD en c = some ⟨(t, 0, whole), l, true⟩) (hw : wfs pr l) :
    Hw C (updR ρ c ⟨w.heap.size, [], [], 0, none⟩) (fun d => pr d ∨ d = c) en (w.alloc (.cells (dens ρ l).toArray t)) := by
  have hρ : ∀ d, pr d → updR ρ c ⟨w.heap.size, [], [], 0, none⟩ d = ρ d := fun d hd => if_neg (by rintro rfl; exact hc hd)
  have hs : updR ρ c ⟨w.heap.size, [], [], 0, none⟩ c = ⟨w.heap.size, [], [], 0, none⟩ := if_pos rfl
  refine ⟨?_, ?_, ?_, h.up.alloc _, ?_, ?_⟩
  · intro d ty cells mu hd hde
    by_cases hdc : d = c
    · subst hdc
      rw [he] at hde
      simp only [Option.some.injEq, EN.mk.injEq] at hde
      obtain ⟨rfl, rfl, rfl⟩ := hde
      refine ⟨fun _ => ?_, wfs_mono hw (fun x hx => .inl hx), fun hd => absurd hd htd, by rw [hs]; exact fun h => absurd rfl h⟩
      rw [hs, dens_congr hw hρ]
      simpa using heap_alloc_new w (.cells (dens ρ l).toArray t)
    · have hpd : pr d := hd.resolve_right hdc
      have h1 := h.hp d ty cells mu hpd hde
      refine ⟨fun hd => ?_, wfs_mono h1.wf (fun x hx => .inl hx), h1.dead, by rw [hρ d hpd]; exact h1.non⟩
      rw [hρ d hpd] at hd
      rw [hρ d hpd, dens_congr h1.wf hρ]
      exact (Below.heap_alloc w _ _ (h.lt hpd ((deadE_of hde).2 hd))).trans (h1.heap hd)
  · intro d ty cells mu hd hde
    by_cases hdc : d = c
    · subst hdc
      rw [he] at hde
      simp only [Option.some.injEq, EN.mk.injEq] at hde
      obtain ⟨rfl, _, _⟩ := hde
      rw [hs]; exact ⟨rfl, rfl, rfl⟩
    · have hpd : pr d := hd.resolve_right hdc
      rw [hρ d hpd]
      exact h.ho d ty cells mu hpd hde
  · intro x y hx hy hxl hyl hxy
    rcases hx with hx | rfl <;> rcases hy with hy | rfl
    · rw [hρ x hx, hρ y hy] at hxy; rw [hρ x hx] at hxl; rw [hρ y hy] at hyl; exact h.inj x y hx hy hxl hyl hxy
    · rw [hρ x hx, hs] at hxy
      rw [hρ x hx] at hxl
      have := h.lt hx hxl
      simp only at hxy; omega
    · rw [hρ y hy, hs] at hxy
      rw [hρ y hy] at hyl
      have := h.lt hy hyl
      simp only at hxy; omega
    · rfl
  · intro d ty cells hd hde
    rcases hd with hd | rfl
    · rw [hρ d hd]; exact h.mu d ty cells hd hde
    · rw [hs]; exact .inr h.up.size
  · intro d hd
    have : updR ρ c ⟨w.heap.size, [], [], 0, none⟩ d = ρ d := if_neg (by omega)
    rw [this]; exact h.ini d hd
end
end Go.Proofs.YtehfcboiimdkbaaGreatDoor
/- A region whose order is drawn, walked once in the text's order: the check of each operation at each state in which it may be executed, and that this is enough. -/
namespace Go.Proofs.YtehfcboiimdkbaaGreatDoor
set_option linter.unusedSimpArgs false
set_option linter.unusedVariables false
open Go.RowKit
inductive Kd where
  | skip
  | soft
  | flt (c : Nat)
  | hst (j : Nat)
  | hcl (j : Nat)
inductive Cr where
  | f (i : Nat)
  | h (j : Nat)
def jE : Bool → Bool → Bool
  | true, true => true
  | false, false => true
  | _, _ => false
theorem eqB_iff (x y : Bool) : jE x y = (x == y) := by cases x <;> cases y <;> rfl
def jD (all : List Oper) (sl : List (Nat × SV)) : Option (Nat × Bool) → Option Bool
  | none => some true
  | some (j, b) => match zD all j with
    | some ⟨some d, _, _, _, _, _⟩ => match qy sl d with
      | some (.c (.b x)) => some (jE x b)
      | some (.c .u) => some false
      | _ => none
    | _ => none
def jP : Nat → Nat → (Nat → Prop) → Prop
  | 0, _, _ => True
  | n + 1, s, f => f s ∧ jP n (s + 1) f
theorem allL_get {f : Nat → Prop} : ∀ {n s : Nat}, jP n s f → ∀ l, s ≤ l → l < s + n → f l
  | 0, s, _, l, h1, h2 => by omega
  | n + 1, s, h, l, h1, h2 => by
    by_cases e : l = s
    · subst e; exact h.1
    · exact allL_get h.2 l (by omega) (by omega)
def jI {α : Type} : Nat → List α → List α
  | 0, _ => []
  | _ + 1, [] => []
  | n + 1, x :: l => x :: jI n l
theorem firstN_eq {α : Type} : ∀ (n : Nat) (l : List α), jI n l = l.take n
  | 0, l => by simp [jI]
  | n + 1, [] => by simp [jI]
  | n + 1, x :: l => by simp [jI, firstN_eq n l]
def jV (n : Nat) : SC → Bool
  | .p c _ => decide (c < n)
  | .sl c _ _ _ => decide (c < n)
  | .rw c _ => decide (c < n)
  | .f _ cap => cap.all fun x => decide (x.1 < n)
  | _ => true
def jW (n : Nat) : List SC → Bool
  | [] => true
  | x :: l => bif jV n x then jW n l else false
def jX (n : Nat) : List EN → Bool
  | [] => true
  | ⟨_, cells, _⟩ :: l => bif jW n cells then jX n l else false
def jY (n : Nat) : List SV → Bool
  | [] => true
  | .c x :: l => bif jV n x then jY n l else false
  | .g c :: l => bif jW n c then jY n l else false
  | .t _ :: _ => false
theorem wfC_ok {n : Nat} {x : SC} (h : jV n x = true) : x.wf (· < n) := by
  cases x with
  | p c o => have h1 : c < n := of_decide_eq_true h; exact h1
  | sl c o k m => have h1 : c < n := of_decide_eq_true h; exact h1
  | rw c k => have h1 : c < n := of_decide_eq_true h; exact h1
  | f fn cap => intro y hy; simp only [jV, List.all_eq_true, decide_eq_true_eq] at h; exact h y hy
  | _ => trivial
theorem wfL_ok {n : Nat} : ∀ {l : List SC}, jW n l = true → wfs (· < n) l
  | [], _ => fun x hx => nomatch hx
  | x :: l, h => by
    simp only [jW, cond_eq_ite] at h
    split at h
    · rename_i hx
      intro y hy
      rcases List.mem_cons.1 hy with rfl | hy
      · exact wfC_ok hx
      · exact wfL_ok h y hy
    · cases h
theorem wfE_ok {n : Nat} : ∀ {l : List EN}, jX n l = true → ∀ e ∈ l, wfs (· < n) e.cells
  | [], _ => fun x hx => nomatch hx
  | ⟨ty, cells, mu⟩ :: l, h => by
    simp only [jX, cond_eq_ite] at h
    split at h
    · rename_i hx
      intro y hy
      rcases List.mem_cons.1 hy with rfl | hy
      · exact wfL_ok hx
      · exact wfE_ok h y hy
    · cases h
theorem wfV_ok {n : Nat} : ∀ {l : List SV}, jY n l = true → ∀ x ∈ l, x.wf (· < n)
  | [], _ => fun x hx => nomatch hx
  | .c x :: l, h => by
    simp only [jY, cond_eq_ite] at h
    split at h
    · rename_i hx
      intro y hy
      rcases List.mem_cons.1 hy with rfl | hy
      · exact wfC_ok hx
      · exact wfV_ok h y hy
    · cases h
  | .g c :: l, h => by
    simp only [jY, cond_eq_ite] at h
    split at h
    · rename_i hx
      intro y hy
      rcases List.mem_cons.1 hy with rfl | hy
      · exact wfL_ok hx
      · exact wfV_ok h y hy
    · cases h
  | .t _ :: _, h => by cases h
def jR (P : Program) (rd : Rd) (ctr : Ctr) (nE : Nat) (en : List EN) (sl : List (Nat × SV)) (v : SV) : Op → Prop
  | .call ⟨.value (.func f), args, _⟩ => match qw sl args.toList with
    | some xs => match ctr f (jI nE en) xs with
      | some (p, u) => jX nE (jI nE en) = true ∧ jY nE xs = true ∧ p ∧ u = v
      | none => False
    | none => False
  | op => match qK P rd en (ev sl) op with
    | some (p, u) => p ∧ u = v
    | none => False
def jG (c : Nat) : Option Nat → SV
  | none => .c (.p c 0)
  | some n => .c (.sl c 0 n n)
def jF (P : Program) (sl : List (Nat × SV)) : Op → Option (TypeId × List SC × Option Nat)
  | .alloc t => match tiOf P t with
    | some ⟨_, _, z, _, _, _, _, _⟩ => some (t, z, none)
    | none => none
  | .buildSlice t n ps => match qD P (ev sl) t n ps.toList with
    | some (el, l) => some (el, l, some n)
    | none => none
  | .box t x => match ev sl x with
    | some v => match qv v with
      | some l => if t = 4294967295 then none else some (t, l, none)
      | none => none
    | none => none
  | _ => none
def jH (P : Program) (sl : List (Nat × SV)) (en : List EN) : Op → Option (List EN)
  | .store t a x => match tiOf P t, ev sl a, ev sl x with
    | some ⟨sz, _, _, _, _, _, _, _⟩, some (.c (.p c o)), some v => match zD en c with
      | some ⟨ty, cells, true⟩ => match qv v with
        | some vs => if zG vs = sz then (match zC o vs cells with
          | some l => some (zE en c ⟨ty, l, true⟩)
          | none => none) else none
        | none => none
      | _ => none
    | _, _, _ => none
  | _ => none
def HCall (C : Cx) (nE : Nat) (mk : Nat → Prop) (en en' : List EN) (f : FuncId) (xs : List SV) (v : SV) : Prop :=
  (∀ args w, (callFunc f args).run C.P w = .ok (.enter f args) w) ∧
  ∀ ρ pr w, (∀ c, c < nE → pr c) → (∀ c, mk c → ¬ pr c) → Hw C ρ pr en w → (∀ c, pr c → zD en c ≠ none) → (∀ x ∈ xs, x.wf pr) →
    Calls C.P f (xs.map (SV.den ρ)).toArray w fun e w' => ∃ ρ', (∀ c, pr c → ρ' c = ρ c) ∧ e = .returned (v.den ρ') ∧ v.wf (fun c => pr c ∨ mk c) ∧ Hw C ρ' (fun c => pr c ∨ mk c) en' w' ∧ ∀ c, mk c → zD en' c ≠ none
def HApp (C : Cx) (nE : Nat) (mk : Nat → Prop) (en en' : List EN) (tys : Array TypeId) (xs : List SV) (v : SV) : Prop :=
  ∀ ρ pr w, (∀ c, c < nE → pr c) → (∀ c, mk c → ¬ pr c) → Hw C ρ pr en w → (∀ c, pr c → zD en c ≠ none) → (∀ x ∈ xs, x.wf pr) → ∀ ty,
    ∃ ρ' w', (Builtin.append_ tys ty (xs.map (SV.den ρ)).toArray).run C.P w = .ok (v.den ρ') w' ∧ (∀ c, pr c → ρ' c = ρ c) ∧ v.wf (fun c => pr c ∨ mk c) ∧ Hw C ρ' (fun c => pr c ∨ mk c) en' w'
def jU (C : Cx) (nE : Nat) (mk : Nat → Prop) (en en' : List EN) (sl : List (Nat × SV)) (v : SV) : Op → Prop
  | .call ⟨.value (.func f), args, _⟩ => match qw sl args.toList with
    | some xs => HCall C nE mk en en' f xs v
    | none => False
  | .call ⟨.builtin .append, args, tys⟩ => match qw sl args.toList with
    | some xs => HApp C nE mk en en' tys xs v
    | none => False
  | _ => False
def mkC (nE : Nat) (crs : List Cr) (j : Nat) (c : Nat) : Prop := nE ≤ c ∧ crs[c - nE]? = some (.h j)
def jQ (lv : List (List EN)) (l : Nat) (f : List EN → Prop) : Prop :=
  match zD lv l with
  | some en => f en
  | none => False
def jT (C : Cx) (ctr : Ctr) (nE : Nat) (all : List Oper) (lv : List (List EN)) (crs : List Cr) (i : Nat) (o : Oper) (v : SV) (lo hi : Nat) (sl : List (Nat × SV)) : Kd → Prop
  | .skip => jD all sl o.guard = some false ∧ v = .c .u
  | .soft => jD all sl o.guard = some true ∧ jP (hi + 1 - lo) lo fun l => jQ lv l fun en => jR C.P C.rd ctr nE en sl v o.op
  | .flt c => jD all sl o.guard = some true ∧ nE ≤ c ∧ zD crs (c - nE) = some (.f i) ∧ match jF C.P sl o.op with
    | some (t, l, q) => v = jG c q ∧ jP (hi + 1 - lo) lo fun q => jQ lv q fun en => zD en c = some ⟨(t, 0, whole), l, true⟩
    | none => False
  | .hst j => jD all sl o.guard = some true ∧ o.dst = none ∧ v = .c .u ∧ jQ lv j fun en => match jH C.P sl en o.op with
    | some en' => zD lv (j + 1) = some en'
    | none => False
  | .hcl j => jD all sl o.guard = some true ∧ jQ lv j fun en => jQ lv (j + 1) fun en' => jU C nE (mkC nE crs j) en en' sl v o.op
def jN (dst : Option Nat) (v : SV) (sl : List (Nat × SV)) : List (Nat × SV) :=
  match dst with
  | some d => (d, v) :: sl
  | none => sl
def jS (C : Cx) (ctr : Ctr) (nE : Nat) (all : List Oper) (lv : List (List EN)) (crs : List Cr) : Nat → List Oper → List Kd → List SV → List (Nat × Nat) → List (Nat × SV) → Prop
  | _, [], [], [], [], _ => True
  | i, o :: os, k :: ks, v :: vs, (lo, hi) :: rs, sl => jT C ctr nE all lv crs i o v lo hi sl k ∧ jS C ctr nE all lv crs (i + 1) os ks vs rs (jN o.dst v sl)
  | _, _, _, _, _, _ => False
def jO : List Oper → List SV → Nat → List (Nat × SV) → List (Nat × SV)
  | o :: os, v :: vs, i + 1, sl => jO os vs i (jN o.dst v sl)
  | _, _, _, sl => sl
theorem ckD_get {C : Cx} {ctr : Ctr} {nE : Nat} {all : List Oper} {lv : List (List EN)} {crs : List Cr} : ∀ {b : Nat} {os : List Oper} {ks : List Kd} {vs : List SV} {rs : List (Nat × Nat)} {sl : List (Nat × SV)},
    jS C ctr nE all lv crs b os ks vs rs sl → ∀ (i : Nat) (o : Oper), os[i]? = some o → ∃ k v lo hi, ks[i]? = some k ∧ vs[i]? = some v ∧ rs[i]? = some (lo, hi) ∧ jT C ctr nE all lv crs (b + i) o v lo hi (jO os vs i sl) k
  | b, [], [], [], [], sl, h, i, o, ho => by simp at ho
  | b, o' :: os, k :: ks, v :: vs, (lo, hi) :: rs, sl, h, 0, o, ho => by
    simp at ho; subst ho
    exact ⟨k, v, lo, hi, rfl, rfl, rfl, h.1⟩
  | b, o' :: os, k :: ks, v :: vs, (lo, hi) :: rs, sl, h, i + 1, o, ho => by
    obtain ⟨k', v', lo', hi', h1, h2, h3, h4⟩ := ckD_get h.2 i o (by simpa using ho)
    exact ⟨k', v', lo', hi', by simpa using h1, by simpa using h2, by simpa using h3, by rw [show b + (i + 1) = b + 1 + i by omega]; exact h4⟩
theorem slAt_get : ∀ {os : List Oper} {vs : List SV} {i : Nat} {sl : List (Nat × SV)} {t : Nat} {u : SV}, qy (jO os vs i sl) t = some u → vs.length = os.length →
    (∃ j o, j < i ∧ os[j]? = some o ∧ o.dst = some t ∧ vs[j]? = some u) ∨ ((∀ j o, j < i → os[j]? = some o → o.dst ≠ some t) ∧ qy sl t = some u)
  | [], vs, i, sl, t, u, h, hl => by
    right
    cases i <;> cases vs <;> simp [jO] at h <;> exact ⟨fun j o _ ho => by simp at ho, h⟩
  | o :: os, [], i, sl, t, u, h, hl => by simp at hl
  | o :: os, v :: vs, 0, sl, t, u, h, hl => by right; exact ⟨fun j o hj => by omega, h⟩
  | o :: os, v :: vs, i + 1, sl, t, u, h, hl => by
    simp only [jO] at h
    rcases slAt_get h (by simpa using hl) with ⟨j, o', hj, h1, h2, h3⟩ | ⟨h1, h2⟩
    · exact .inl ⟨j + 1, o', by omega, by simpa using h1, h2, by simpa using h3⟩
    · unfold jN at h2
      cases hd : o.dst with
      | none =>
        rw [hd] at h2
        right
        refine ⟨fun j o' hj ho => ?_, h2⟩
        cases j with
        | zero => simp at ho; subst ho; rw [hd]; simp
        | succ j => exact h1 j o' (by omega) (by simpa using ho)
      | some d =>
        rw [hd] at h2
        simp only [qy] at h2
        split at h2
        · rename_i e
          subst e
          simp only [Option.some.injEq] at h2
          subst h2
          exact .inl ⟨0, o, by omega, rfl, hd, rfl⟩
        · rename_i hne
          right
          refine ⟨fun j o' hj ho => ?_, h2⟩
          cases j with
          | zero => simp at ho; subst ho; rw [hd]; simp; exact hne
          | succ j => exact h1 j o' (by omega) (by simpa using ho)
def hnum : Option Kd → Option Nat
  | some (.hst j) => some j
  | some (.hcl j) => some j
  | _ => none
def aftN (ks : List Kd) (rs : List (Nat × Nat)) (i : Nat) : Nat := match hnum ks[i]? with | some j => j + 1 | none => (rs.getD i (0, 0)).1
def befN (ks : List Kd) (rs : List (Nat × Nat)) (i : Nat) : Nat := match hnum ks[i]? with | some j => j | none => (rs.getD i (0, 0)).2
def loN (ks : List Kd) (rs : List (Nat × Nat)) (i : Nat) : Nat := match hnum ks[i]? with | some j => j | none => (rs.getD i (0, 0)).1
def edg (ops : List Oper) (i j : Nat) : Bool := match ops[i]? with | some o => o.after.toList.any fun e => Region.binds .any e && e.on == j | none => false
def looksB (ops : List Oper) (o : Oper) : List Nat := (o.op.operands.toList.filterMap fun | .tmp t => some t | _ => none) ++ (match o.guard with | some (g, _) => ((ops[g]?).bind (·.dst)).toList | none => [])
def ckE (ops : List Oper) (ks : List Kd) (rs : List (Nat × Nat)) (m : Nat) : Bool :=
  ks.length == ops.length && rs.length == ops.length &&
  (List.range ops.length).all fun i =>
    match ops[i]? with
    | none => false
    | some o =>
      (o.after.toList.all fun e => !Region.binds .any e || e.on < i) &&
      (loN ks rs i == 0 || o.after.toList.any fun e => Region.binds .any e && loN ks rs i ≤ aftN ks rs e.on) &&
      (match hnum ks[i]? with
       | some j => j < m && (List.range ops.length).all fun x => x == i || hnum ks[x]? != some j
       | none => m ≤ (rs.getD i (0, 0)).2 || (List.range ops.length).any fun x => i < x && edg ops x i && befN ks rs x ≤ (rs.getD i (0, 0)).2) &&
      ((List.range ops.length).all fun x => x == i || (match ops[x]? with
        | some q => (match q.dst with
          | none => true
          | some d => q.dst != o.dst && (!(looksB ops o).contains d || (x < i && edg ops i x) || (i < x && edg ops x i)))
        | none => false)) &&
      (match o.op with | .select _ _ => false | _ => true)
def isFlt (c : Nat) : Option Kd → Bool
  | some (.flt d) => c == d
  | _ => false
def isHcl (j : Nat) : Kd → Bool
  | .hcl i => i == j
  | _ => false
def ckC (nE : Nat) (ks : List Kd) (crs : List Cr) (m : Nat) : Bool :=
  ((List.range crs.length).all fun q => match crs[q]? with
    | some (.f i) => i < ks.length && isFlt (nE + q) ks[i]?
    | some (.h j) => j < m && ks.any (isHcl j)
    | none => true) &&
  (List.range m).all fun j => (List.range ks.length).any fun i => hnum ks[i]? == some j
def lenB : List (List EN) → Nat → Bool
  | [], _ => true
  | e :: l, n => bif zG e == n then lenB l n else false
theorem lenB_ok : ∀ {l : List (List EN)} {n : Nat}, lenB l n = true → ∀ e ∈ l, e.length = n
  | [], _, _ => fun e he => nomatch he
  | x :: l, n, h => by
    simp only [lenB, cond_eq_ite] at h
    split at h
    · rename_i hx
      intro y hy
      rcases List.mem_cons.1 hy with rfl | hy
      · rw [← lenN_eq]; simpa using hx
      · exact lenB_ok h y hy
    · cases h
def ntB (ops : List Oper) (nt : Nat) : Bool := ops.all fun o => match o.dst with | some d => d < nt | none => true
theorem ntB_ok {ops : List Oper} {nt : Nat} (h : ntB ops nt = true) : ∀ o ∈ ops, ∀ d, o.dst = some d → d < nt := by
  intro o ho d hd
  unfold ntB at h
  rw [List.all_eq_true] at h
  have := h o ho
  rw [hd] at this
  simpa using this
end Go.Proofs.YtehfcboiimdkbaaGreatDoor
/- The walk of a drawn region is sound: every order that its edges allow comes to the same. -/
namespace Go.Proofs.YtehfcboiimdkbaaGreatDoor
set_option linter.unusedSimpArgs false
set_option linter.unusedVariables false
open Go.RowKit
def PR (nE : Nat) (crs : List Cr) (listed : Array Bool) (k c : Nat) : Prop :=
  c < nE ∨ (nE ≤ c ∧ match crs[c - nE]? with
    | some (.f i) => listed.getD i false = true
    | some (.h j) => j < k
    | none => False)
section
variable {C : Cx} {nE m nt : Nat} {ops : List Oper} {ks : List Kd} {vs : List SV} {rs : List (Nat × Nat)} {lv : List (List EN)} {crs : List Cr} {sl : List (Nat × SV)} {a0 : Act}
structure IV (C : Cx) (nE m nt : Nat) (ops : List Oper) (ks : List Kd) (vs : List SV) (rs : List (Nat × Nat)) (lv : List (List EN)) (crs : List Cr) (sl : List (Nat × SV)) (a0 : Act) (listed : Array Bool) (a : Act) (w : World) (k : Nat) (ρ : Nat → RE) : Prop where
  le : k ≤ m
  hard : ∀ i j, hnum ks[i]? = some j → (listed.getD i false = true ↔ j < k)
  down : ∀ i o e, listed.getD i false = true → ops[i]? = some o → e ∈ o.after.toList → Region.binds .any e = true → listed.getD e.on false = true
  lowr : ∀ i, listed.getD i false = true → aftN ks rs i ≤ k
  uppr : ∀ i, i < ops.length → listed.getD i false = false → k ≤ befN ks rs i
  wd : ∃ e, zD lv k = some e ∧ Hw C ρ (PR nE crs listed k) e w
  tm : ∀ i o v d, listed.getD i false = true → ops[i]? = some o → vs[i]? = some v → o.dst = some d → a.tmps[d]? = some (v.den ρ) ∧ v.wf (PR nE crs listed k)
  old : ∀ t, (∀ i o, listed.getD i false = true → ops[i]? = some o → o.dst ≠ some t) → a.tmps[t]? = a0.tmps[t]?
  base : ∀ t u, qy sl t = some u → a0.tmps[t]? = some (u.den ρ) ∧ u.wf (· < nE)
  sz : a.tmps.size = nt
  df : a.defers = C.df
theorem set_getD {listed : Array Bool} {i j : Nat} : (listed.setIfInBounds i true).getD j false = if i = j ∧ i < listed.size then true else listed.getD j false := by
  simp only [Array.getD_eq_getD_getElem?, Array.getElem?_setIfInBounds]
  by_cases e : i = j
  · subst e
    by_cases hl : i < listed.size
    · simp [hl]
    · simp [hl]
  · simp [e]
theorem set_old {listed : Array Bool} {i j : Nat} (h : listed.getD j false = true) : (listed.setIfInBounds i true).getD j false = true := by
  rw [set_getD]; split
  · rfl
  · exact h
theorem set_new {listed : Array Bool} {i j : Nat} (h : (listed.setIfInBounds i true).getD j false = true) : j = i ∨ listed.getD j false = true := by
  rw [set_getD] at h; split at h
  · rename_i e; exact .inl e.1.symm
  · exact .inr h
theorem PR_mono {listed : Array Bool} {i k k' c : Nat} (hk : k ≤ k') (h : PR nE crs listed k c) : PR nE crs (listed.setIfInBounds i true) k' c := by
  rcases h with h | ⟨h, h2⟩
  · exact .inl h
  · refine .inr ⟨h, ?_⟩
    split at h2
    · exact set_old h2
    · omega
    · exact h2
structure EK (ops : List Oper) (ks : List Kd) (rs : List (Nat × Nat)) (m : Nat) : Prop where
  len : ks.length = ops.length
  up : ∀ i o e, ops[i]? = some o → e ∈ o.after.toList → Region.binds .any e = true → e.on < i
  lo : ∀ i o, ops[i]? = some o → loN ks rs i = 0 ∨ ∃ e ∈ o.after.toList, Region.binds .any e = true ∧ loN ks rs i ≤ aftN ks rs e.on
  hn : ∀ i j, i < ops.length → hnum ks[i]? = some j → j < m ∧ ∀ x, x < ops.length → hnum ks[x]? = some j → x = i
  hi : ∀ i, i < ops.length → hnum ks[i]? = none → m ≤ befN ks rs i ∨ ∃ x, x < ops.length ∧ i < x ∧ edg ops x i = true ∧ befN ks rs x ≤ befN ks rs i
  dst : ∀ i o x q d, ops[i]? = some o → ops[x]? = some q → q.dst = some d → x ≠ i → o.dst ≠ some d ∧ (d ∈ looksB ops o → (x < i ∧ edg ops i x = true) ∨ (i < x ∧ edg ops x i = true))
theorem ckE_ok (h : ckE ops ks rs m = true) : EK ops ks rs m := by
  unfold ckE at h
  simp only [Bool.and_eq_true, beq_iff_eq, List.all_eq_true, List.mem_range] at h
  obtain ⟨⟨h1, h2⟩, h3⟩ := h
  have g : ∀ i o, ops[i]? = some o → _ := fun i o ho => by
    have hi := (List.getElem?_eq_some_iff.1 ho).1
    have := h3 i hi
    simp only [ho] at this
    exact this
  refine ⟨h1, ?_, ?_, ?_, ?_, ?_⟩
  · intro i o e ho he hb
    have := g i o ho
    simp only [Bool.and_eq_true, List.all_eq_true] at this
    have := this.1.1.1.1 e he
    simpa [hb] using this
  · intro i o ho
    have := g i o ho
    simp only [Bool.and_eq_true, Bool.or_eq_true, beq_iff_eq, List.any_eq_true, decide_eq_true_eq] at this
    rcases this.1.1.1.2 with h | ⟨e, he, hb, hl⟩
    · exact .inl h
    · exact .inr ⟨e, he, hb, hl⟩
  · intro i j hi hj
    have := g i _ (List.getElem?_eq_getElem hi)
    simp only [Bool.and_eq_true] at this
    have := this.1.1.2
    simp only [hj, Bool.and_eq_true, decide_eq_true_eq, List.all_eq_true, List.mem_range, Bool.or_eq_true, beq_iff_eq, bne_iff_ne] at this
    exact ⟨this.1, fun x hx hxj => (this.2 x hx).resolve_right (fun h => h hxj)⟩
  · intro i hi hj
    have := g i _ (List.getElem?_eq_getElem hi)
    simp only [Bool.and_eq_true] at this
    have := this.1.1.2
    simp only [hj, Bool.or_eq_true, decide_eq_true_eq, List.any_eq_true, List.mem_range, Bool.and_eq_true] at this
    have hb : befN ks rs i = (rs.getD i (0, 0)).2 := by unfold befN; rw [hj]
    rw [hb]
    rcases this with h | ⟨x, hx, ⟨h5, h6⟩, h7⟩
    · exact .inl h
    · exact .inr ⟨x, hx, h5, h6, h7⟩
  · intro i o x q d ho hq hd hne
    have hx := (List.getElem?_eq_some_iff.1 hq).1
    have := g i o ho
    simp only [Bool.and_eq_true, List.all_eq_true, List.mem_range] at this
    have := this.1.2 x hx
    simp only [hq, hd, Bool.or_eq_true, beq_iff_eq, Bool.and_eq_true, bne_iff_ne, Bool.not_eq_true', List.contains_eq_mem, decide_eq_false_iff_not, decide_eq_true_eq] at this
    rcases this with h | ⟨h5, h6⟩
    · exact absurd h hne
    · refine ⟨fun e => h5 e.symm, fun hl => ?_⟩
      rcases h6 with (h6 | h6) | h6
      · exact absurd hl h6
      · exact .inl h6
      · exact .inr h6
theorem edg_iff {i j : Nat} (h : edg ops i j = true) : ∃ o e, ops[i]? = some o ∧ e ∈ o.after.toList ∧ Region.binds .any e = true ∧ e.on = j := by
  unfold edg at h
  split at h
  · rename_i o ho
    simp only [List.any_eq_true, Bool.and_eq_true, beq_iff_eq] at h
    obtain ⟨e, he, hb, hj⟩ := h
    exact ⟨o, e, ho, he, hb, hj⟩
  · cases h
structure Rdy (ops : List Oper) (listed : Array Bool) (i : Nat) (o : Oper) : Prop where
  lt : i < ops.length
  un : listed.getD i false = false
  op : ops[i]? = some o
  pre : ∀ e ∈ o.after.toList, Region.binds .any e = true → listed.getD e.on false = true
theorem rdy_of {listed : Array Bool} {i : Nat} (hs : listed.size = ops.length) (h : i ∈ Region.ready .any ops.toArray listed) : ∃ o, Rdy ops listed i o := by
  obtain ⟨h1, h2, o, ho, hp⟩ := ready_un h
  have h1' : i < ops.length := by simpa using h1
  refine ⟨o, h1', ?_, by simpa using ho, fun e he => hp e (by simpa using he)⟩
  have hlt : i < listed.size := by omega
  simp only [Array.getD_eq_getD_getElem?, Array.getElem?_eq_getElem hlt, Option.getD_some] at h2 ⊢
  exact h2
variable {listed : Array Bool} {a : Act} {w : World} {k i : Nat} {ρ : Nat → RE} {o : Oper}
theorem IV.kLo (h : IV C nE m nt ops ks vs rs lv crs sl a0 listed a w k ρ) (E : EK ops ks rs m) (r : Rdy ops listed i o) : loN ks rs i ≤ k := by
  rcases E.lo i o r.op with h0 | ⟨e, he, hb, hl⟩
  · omega
  · have := h.lowr e.on (r.pre e he hb); omega
theorem IV.kHard (h : IV C nE m nt ops ks vs rs lv crs sl a0 listed a w k ρ) (E : EK ops ks rs m) (r : Rdy ops listed i o) {j : Nat} (hj : hnum ks[i]? = some j) : j = k := by
  have h1 := h.kLo E r
  unfold loN at h1
  rw [hj] at h1
  have h2 := h.hard i j hj
  rw [r.un] at h2
  simp at h2
  simp only at h1
  omega
theorem IV.slot (h : IV C nE m nt ops ks vs rs lv crs sl a0 listed a w k ρ) (E : EK ops ks rs m) (r : Rdy ops listed i o) (hv : vs.length = ops.length) {t : Nat} (ht : t ∈ looksB ops o) {u : SV} (hu : qy (jO ops vs i sl) t = some u) :
    a.tmps[t]? = some (u.den ρ) ∧ u.wf (PR nE crs listed k) := by
  rcases slAt_get hu hv with ⟨j, q, hj, hq, hd, hvj⟩ | ⟨hn, hb⟩
  · have hl : listed.getD j false = true := by
      rcases (E.dst i o j q t r.op hq hd (by omega)).2 ht with ⟨_, he⟩ | ⟨hlt, _⟩
      · obtain ⟨o', e, ho', he1, he2, rfl⟩ := edg_iff he
        rw [r.op] at ho'
        cases ho'
        exact r.pre e he1 he2
      · omega
    exact h.tm j q u t hl hq hvj hd
  · have h1 := h.old t (fun j q hl hq hd => by
      have hji : j ≠ i := by rintro rfl; rw [r.un] at hl; cases hl
      rcases (E.dst i o j q t r.op hq hd hji).2 ht with ⟨hlt, _⟩ | ⟨hlt, he⟩
      · exact hn j q hlt hq hd
      · obtain ⟨o', e, ho', he1, he2, rfl⟩ := edg_iff he
        rw [hq] at ho'
        cases ho'
        have := h.down j q e hl hq he1 he2
        rw [r.un] at this
        cases this)
    obtain ⟨h2, h3⟩ := h.base t u hb
    exact ⟨h1.trans h2, SV.wf_mono h3 (fun c hc => .inl hc)⟩
theorem IV.opnd (h : IV C nE m nt ops ks vs rs lv crs sl a0 listed a w k ρ) (E : EK ops ks rs m) (r : Rdy ops listed i o) (hv : vs.length = ops.length) (x : Operand) (u : SV) (hx : opT o.op x) (hu : ev (jO ops vs i sl) x = some u) :
    a.eval x = u.den ρ ∧ u.wf (PR nE crs listed k) := by
  cases x with
  | tmp t =>
    obtain ⟨h1, h2⟩ := h.slot E r hv (t := t) (by
      unfold looksB
      refine List.mem_append.2 (.inl ?_)
      rw [List.mem_filterMap]
      exact ⟨_, hx, rfl⟩) hu
    exact ⟨by simp [Act.eval, Array.getD_eq_getD_getElem?, h1], h2⟩
  | const v => simp only [ev, Option.some.injEq] at hu; subst hu; exact ⟨by simp [Act.eval, SV.den, ofVal_den], ofVal_wf _ _⟩
  | global g => cases hu
  | func f => simp only [ev, Option.some.injEq] at hu; subst hu; exact ⟨rfl, trivial⟩
theorem IV.opnds (h : IV C nE m nt ops ks vs rs lv crs sl a0 listed a w k ρ) (E : EK ops ks rs m) (r : Rdy ops listed i o) (hv : vs.length = ops.length) : ∀ (xs : List Operand) (us : List SV), (∀ x ∈ xs, opT o.op x) → qw (jO ops vs i sl) xs = some us →
    xs.map a.eval = us.map (SV.den ρ) ∧ ∀ u ∈ us, u.wf (PR nE crs listed k)
  | [], us, _, hx => by simp [qw] at hx; subst hx; simp
  | x :: xs, us, ho, hx => by
    simp only [qw] at hx
    split at hx <;> try cases hx
    rename_i v hvv
    split at hx <;> simp only [Option.some.injEq, reduceCtorEq] at hx
    rename_i l hl
    subst hx
    obtain ⟨e1, e2⟩ := h.opnd E r hv x v (ho x (by simp)) hvv
    obtain ⟨r1, r2⟩ := h.opnds E r hv xs l (fun y hy => ho y (by simp [hy])) hl
    refine ⟨by simp [e1, r1], fun u hu => ?_⟩
    rcases List.mem_cons.1 hu with rfl | hu
    · exact e2
    · exact r2 u hu
theorem IV.wanted (h : IV C nE m nt ops ks vs rs lv crs sl a0 listed a w k ρ) (E : EK ops ks rs m) (r : Rdy ops listed i o) (hv : vs.length = ops.length) {b : Bool} (hg : jD ops (jO ops vs i sl) o.guard = some b) : Region.wanted o (yielded ops.toArray a.tmps) = b := by
  unfold Region.wanted
  cases hgd : o.guard with
  | none => rw [hgd] at hg; simp only [jD, Option.some.injEq] at hg; exact hg
  | some jc =>
    obtain ⟨j, c⟩ := jc
    rw [hgd] at hg
    simp only [jD] at hg
    split at hg <;> try cases hg
    rename_i d _ _ _ _ _ hj
    rw [nthS_eq] at hj
    have hl : d ∈ looksB ops o := by
      unfold looksB
      refine List.mem_append.2 (.inr ?_)
      rw [hgd]
      simp [hj]
    have hy : ∀ v, a.tmps[d]? = some v → yielded ops.toArray a.tmps j = (match v with | .bool b => some b | _ => none) := by
      intro v hv
      simp only [yielded, List.getElem?_toArray, hj, Option.bind_some, hv]
      cases v <;> rfl
    split at hg
    · rename_i x hx
      simp only [Option.some.injEq] at hg
      have h1 := hy _ (h.slot E r hv hl hx).1
      simp only [h1, SV.den, SC.den]
      rw [← hg, eqB_iff]
      cases x <;> cases c <;> rfl
    · rename_i hx
      simp only [Option.some.injEq] at hg
      have h1 := hy _ (h.slot E r hv hl hx).1
      simp only [h1, SV.den, SC.den, undef]
      rw [← hg]; rfl
    · cases hg
theorem PR_eq {listed : Array Bool} {i k k' : Nat} {c : Nat} (hs : i < listed.size) (h : PR nE crs (listed.setIfInBounds i true) k' c) (hk : k' = k ∨ k' = k + 1) : PR nE crs listed k c ∨ (nE ≤ c ∧ crs[c - nE]? = some (.f i)) ∨ (k' = k + 1 ∧ mkC nE crs k c) := by
  rcases h with h | ⟨h, h2⟩
  · exact .inl (.inl h)
  · split at h2
    · rename_i j hj
      rcases set_new h2 with rfl | h3
      · exact .inr (.inl ⟨h, hj⟩)
      · refine .inl (.inr ⟨h, ?_⟩); rw [hj]; exact h3
    · rename_i j hj
      by_cases hjk : j < k
      · refine .inl (.inr ⟨h, ?_⟩); rw [hj]; exact hjk
      · obtain rfl : j = k := by omega
        exact .inr (.inr ⟨by omega, h, hj⟩)
    · exact h2.elim
theorem IV.next (h : IV C nE m nt ops ks vs rs lv crs sl a0 listed a w k ρ) (E : EK ops ks rs m) (r : Rdy ops listed i o) (hs : listed.size = ops.length) (hv : vs.length = ops.length) (hnt : ∀ o ∈ ops, ∀ d, o.dst = some d → d < nt)
    {v : SV} (hvi : vs[i]? = some v) {k' : Nat} (hk : (hnum ks[i]? = none ∧ k' = k) ∨ (hnum ks[i]? = some k ∧ k' = k + 1)) {ρ' : Nat → RE} (hρ : ∀ c, PR nE crs listed k c → ρ' c = ρ c) {x : Value} (hx : o.dst = none ∨ x = v.den ρ') (hvw : v.wf (PR nE crs (listed.setIfInBounds i true) k'))
    {w' : World} {e : List EN} (he : zD lv k' = some e) (hw : Hw C ρ' (PR nE crs (listed.setIfInBounds i true) k') e w') :
    IV C nE m nt ops ks vs rs lv crs sl a0 (listed.setIfInBounds i true) (a.put o.dst x) w' k' ρ' := by
  have hil : i < listed.size := by rw [hs]; exact r.lt
  have hki : (listed.setIfInBounds i true).getD i false = true := by rw [set_getD, if_pos ⟨rfl, hil⟩]
  have hkk : k ≤ k' := by rcases hk with ⟨_, rfl⟩ | ⟨_, rfl⟩ <;> omega
  have hpm : ∀ c, PR nE crs listed k c → PR nE crs (listed.setIfInBounds i true) k' c := fun c hc => PR_mono hkk hc
  refine ⟨?_, ?_, ?_, ?_, ?_, ⟨e, he, hw⟩, ?_, ?_, ?_, ?_, ?_⟩
  · rcases hk with ⟨_, rfl⟩ | ⟨hk, rfl⟩
    · exact h.le
    · have := (E.hn i k r.lt hk).1; omega
  · intro y j hj
    have h1 := h.hard y j hj
    by_cases hyi : y = i
    · subst hyi
      rcases hk with ⟨hk, _⟩ | ⟨hk, rfl⟩
      · rw [hk] at hj; cases hj
      · rw [hk] at hj; cases hj; simp [hki]
    · have h2 : (listed.setIfInBounds i true).getD y false = listed.getD y false := by rw [set_getD, if_neg (fun e => hyi e.1.symm)]
      rw [h2, h1]
      rcases hk with ⟨_, rfl⟩ | ⟨hk, rfl⟩
      · exact Iff.rfl
      · constructor
        · intro hlt; omega
        · intro hlt
          rcases Nat.lt_or_ge j k with h3 | h3
          · exact h3
          · obtain rfl : j = k := by omega
            have hyl : y < ops.length := by
              rcases Nat.lt_or_ge y ks.length with h4 | h4
              · rw [← E.len]; exact h4
              · rw [List.getElem?_eq_none h4] at hj; cases hj
            exact absurd ((E.hn i j r.lt hk).2 y hyl hj) hyi
  · intro y q e' hy hq he' hb
    rcases set_new hy with rfl | hy
    · rw [r.op] at hq; cases hq; exact set_old (r.pre e' he' hb)
    · exact set_old (h.down y q e' hy hq he' hb)
  · intro y hy
    rcases set_new hy with rfl | hy
    · unfold aftN
      rcases hk with ⟨hk, rfl⟩ | ⟨hk, rfl⟩
      · rw [hk]
        have := h.kLo E r
        unfold loN at this
        rw [hk] at this
        exact this
      · rw [hk]; exact Nat.le_refl _
    · have := h.lowr y hy; omega
  · intro y hy hyu
    have hyu' : listed.getD y false = false := by
      cases hl : listed.getD y false with
      | false => rfl
      | true => rw [set_old hl] at hyu; cases hyu
    rcases hk with ⟨_, rfl⟩ | ⟨hk, rfl⟩
    · exact h.uppr y hy hyu'
    · -- from the greatest down
      have key : ∀ n y, ops.length - y ≤ n → y < ops.length → y ≠ i → listed.getD y false = false → k + 1 ≤ befN ks rs y := by
        intro n
        induction n with
        | zero => intro y h1 h2; omega
        | succ n ih =>
          intro y h1 h2 h3 h4
          have h5 := h.uppr y h2 h4
          rcases Nat.lt_or_ge k (befN ks rs y) with h6 | h6
          · exact h6
          · have h7 : befN ks rs y = k := by omega
            cases hn : hnum ks[y]? with
            | some j =>
              have h8 : befN ks rs y = j := by unfold befN; rw [hn]
              rw [h8] at h7
              subst h7
              exact absurd ((E.hn i j r.lt hk).2 y h2 hn) h3
            | none =>
              rcases E.hi y h2 hn with h8 | ⟨x, hx1, hx2, hx3, hx4⟩
              · have := (E.hn i k r.lt hk).1; omega
              · obtain ⟨q, e', hq, he1, he2, rfl⟩ := edg_iff hx3
                have hxu : listed.getD x false = false := by
                  cases hl : listed.getD x false with
                  | false => rfl
                  | true => rw [h.down x q e' hl hq he1 he2] at h4; cases h4
                have hxi : x ≠ i := by
                  rintro rfl
                  rw [r.op] at hq; cases hq
                  rw [r.pre e' he1 he2] at h4; cases h4
                have := ih x (by omega) hx1 hxi hxu
                omega
      have hyi : y ≠ i := by rintro rfl; rw [hki] at hyu; cases hyu
      exact key _ y (Nat.le_refl _) hy hyi hyu'
  · intro y q u d hy hq hu hd
    rcases set_new hy with rfl | hyl
    · rw [r.op] at hq; cases hq
      rw [hvi] at hu; cases hu
      have hdl : d < a.tmps.size := by rw [h.sz]; exact hnt o (List.mem_of_getElem? r.op) d hd
      rcases hx with hx | rfl
      · rw [hd] at hx; cases hx
      · rw [hd]; exact ⟨by simp [Act.put, hdl], hvw⟩
    · by_cases hyi : y = i
      · subst hyi; rw [r.un] at hyl; cases hyl
      · obtain ⟨h1, h2⟩ := h.tm y q u d hyl hq hu hd
        have hne := (E.dst i o y q d r.op hq hd hyi).1
        refine ⟨?_, SV.wf_mono h2 hpm⟩
        rw [SV.den_congr h2 hρ]
        cases hod : o.dst with
        | none => exact h1
        | some d' => simp only [Act.put]; rw [Array.getElem?_setIfInBounds_ne (by rintro rfl; exact hne hod)]; exact h1
  · intro t ht
    have h1 := h.old t (fun y q hy hq => ht y q (set_old hy) hq)
    have h2 := ht i o hki r.op
    cases hod : o.dst with
    | none => exact h1
    | some d' => simp only [Act.put]; rw [Array.getElem?_setIfInBounds_ne (by rintro rfl; exact h2 hod)]; exact h1
  · intro t u hu
    obtain ⟨h1, h2⟩ := h.base t u hu
    rw [SV.den_congr h2 (fun c hc => hρ c (.inl hc))]
    exact ⟨h1, h2⟩
  · cases hod : o.dst <;> simp [Act.put, h.sz]
  · cases hod : o.dst <;> simp [Act.put, h.df]
structure CK (nE : Nat) (ks : List Kd) (crs : List Cr) (m : Nat) : Prop where
  cf : ∀ q i : Nat, crs[q]? = some (Cr.f i) → i < ks.length ∧ ks[i]? = some (Kd.flt (nE + q))
  ch : ∀ q j : Nat, crs[q]? = some (Cr.h j) → j < m ∧ ∃ i : Nat, ks[i]? = some (Kd.hcl j)
  cj : ∀ j, j < m → ∃ i : Nat, i < ks.length ∧ hnum ks[i]? = some j
theorem ckC_ok (h : ckC nE ks crs m = true) : CK nE ks crs m := by
  unfold ckC at h
  simp only [Bool.and_eq_true, List.all_eq_true, List.mem_range, List.any_eq_true, beq_iff_eq] at h
  obtain ⟨h1, h2⟩ := h
  refine ⟨?_, ?_, h2⟩
  · intro q i hq
    have := h1 q (List.getElem?_eq_some_iff.1 hq).1
    simp only [hq, Bool.and_eq_true, decide_eq_true_eq] at this
    refine ⟨this.1, ?_⟩
    have h3 := this.2
    unfold isFlt at h3
    split at h3
    · rename_i d hd; rw [hd]; simp at h3; rw [h3]
    · cases h3
  · intro q j hq
    have := h1 q (List.getElem?_eq_some_iff.1 hq).1
    simp only [hq, Bool.and_eq_true, decide_eq_true_eq, List.any_eq_true] at this
    obtain ⟨h3, x, hx, h4⟩ := this
    refine ⟨h3, ?_⟩
    unfold isHcl at h4
    split at h4
    · rename_i j'
      obtain ⟨i, hi, he⟩ := List.mem_iff_getElem.1 hx
      refine ⟨i, ?_⟩
      rw [List.getElem?_eq_getElem hi, he]
      simp at h4; rw [h4]
    · cases h4
theorem Hw.iff {C : Cx} {ρ : Nat → RE} {pr qr : Nat → Prop} {en : List EN} {w : World} (h : Hw C ρ pr en w) (hq : ∀ c, qr c ↔ pr c) : Hw C ρ qr en w := by
  have : qr = pr := funext fun c => propext (hq c)
  rw [this]; exact h
theorem PR_same {listed : Array Bool} {i k c : Nat} (K : CK nE ks crs m) (hs : i < listed.size) (hi : ∀ c, ks[i]? ≠ some (.flt c)) : PR nE crs (listed.setIfInBounds i true) k c ↔ PR nE crs listed k c := by
  refine ⟨fun h => ?_, PR_mono (Nat.le_refl _)⟩
  rcases PR_eq hs h (.inl rfl) with h | ⟨_, h2⟩ | ⟨h, _⟩
  · exact h
  · exact absurd (K.cf _ _ h2).2 (hi _)
  · omega
theorem PR_flt {listed : Array Bool} {i k c d : Nat} (K : CK nE ks crs m) (hs : i < listed.size) (hi : ks[i]? = some (.flt d)) (hd : nE ≤ d) (hcr : crs[d - nE]? = some (.f i)) : PR nE crs (listed.setIfInBounds i true) k c ↔ (PR nE crs listed k c ∨ c = d) := by
  constructor
  · intro h
    rcases PR_eq hs h (.inl rfl) with h | ⟨h1, h2⟩ | ⟨h, _⟩
    · exact .inl h
    · right
      have := (K.cf _ _ h2).2
      rw [hi] at this
      simp only [Option.some.injEq, Kd.flt.injEq] at this
      omega
    · omega
  · rintro (h | rfl)
    · exact PR_mono (Nat.le_refl _) h
    · refine .inr ⟨hd, ?_⟩
      rw [hcr]
      show (listed.setIfInBounds i true).getD i false = true
      rw [set_getD, if_pos ⟨rfl, hs⟩]
theorem PR_hard {listed : Array Bool} {i k c : Nat} (K : CK nE ks crs m) (hs : i < listed.size) (hi : ∀ c, ks[i]? ≠ some (.flt c)) : PR nE crs (listed.setIfInBounds i true) (k + 1) c ↔ (PR nE crs listed k c ∨ mkC nE crs k c) := by
  constructor
  · intro h
    rcases PR_eq hs h (.inr rfl) with h | ⟨_, h2⟩ | ⟨_, h⟩
    · exact .inl h
    · exact absurd (K.cf _ _ h2).2 (hi _)
    · exact .inr h
  · rintro (h | ⟨h1, h2⟩)
    · exact PR_mono (by omega) h
    · refine .inr ⟨h1, ?_⟩
      rw [h2]
      show k < k + 1
      omega
theorem PR_len {listed : Array Bool} {k c : Nat} (h : PR nE crs listed k c) : c < nE + crs.length := by
  rcases h with h | ⟨h, h2⟩
  · omega
  · split at h2
    · rename_i hj; have := (List.getElem?_eq_some_iff.1 hj).1; omega
    · rename_i hj; have := (List.getElem?_eq_some_iff.1 hj).1; omega
    · exact h2.elim
theorem nth_ne {e : List EN} {c n : Nat} (h : e.length = n) (hc : c < n) : zD e c ≠ none := by rw [nthS_eq, List.getElem?_eq_getElem (by omega)]; simp
theorem lvC_get {l : Nat} {f : List EN → Prop} (h : jQ lv l f) : ∃ e, zD lv l = some e ∧ f e := by
  unfold jQ at h
  split at h
  · rename_i e he; exact ⟨e, he, h⟩
  · exact h.elim
theorem opT_call {f : Operand} {args : Array Operand} {tys : Array TypeId} (x : Operand) (hx : x ∈ args.toList) : opT (.call ⟨.value f, args, tys⟩) x := by
  simp only [opT, Op.operands, Call.operands, Array.toList_append, List.mem_append]
  exact .inr hx
theorem opT_app {b : Builtin} {args : Array Operand} {tys : Array TypeId} (x : Operand) (hx : x ∈ args.toList) : opT (.call ⟨.builtin b, args, tys⟩) x := by
  simpa only [opT, Op.operands, Call.operands, Array.empty_append] using hx
theorem draw_step {ctr : Ctr} (hctr : CtrOk C ctr) {Q : Exit → Act → World → Prop} (E : EK ops ks rs m) (K : CK nE ks crs m) (hL : ∀ e ∈ lv, e.length = nE + crs.length) (hn : ∀ o ∈ ops, ∀ d, o.dst = some d → d < nt) (hv : vs.length = ops.length) (hn0 : C.n0 ≤ nE)
    (hD : jS C ctr nE ops lv crs 0 ops ks vs rs sl) (hs : listed.size = ops.length) (h : IV C nE m nt ops ks vs rs lv crs sl a0 listed a w k ρ) (hi : i ∈ Region.ready .any ops.toArray listed) :
    wpOp C.P ops.toArray Q i (fun a' w' => ∃ k' ρ', IV C nE m nt ops ks vs rs lv crs sl a0 (listed.setIfInBounds i true) a' w' k' ρ') a w := by
  obtain ⟨o, r⟩ := rdy_of hs hi
  obtain ⟨q, v, lo, hi', hk, hvi, hri, hck⟩ := ckD_get hD i o r.op
  rw [Nat.zero_add] at hck
  have hil : i < listed.size := by rw [hs]; exact r.lt
  obtain ⟨e, he, hw⟩ := h.wd
  have hel : e.length = nE + crs.length := hL e (by rw [nthS_eq] at he; exact List.mem_of_getElem? he)
  have hne : ∀ c, PR nE crs listed k c → zD e c ≠ none := fun c hc => nth_ne hel (PR_len hc)
  unfold wpOp
  rw [List.getElem?_toArray, r.op]
  simp only
  have hlo := h.kLo E r
  have hup := h.uppr i r.lt r.un
  cases q with
  | skip =>
    obtain ⟨hg, rfl⟩ := hck
    rw [h.wanted E r hv hg]
    simp only [Bool.false_eq_true, if_false]
    have hpr := fun c => PR_same (k := k) (c := c) K hil (fun c => by rw [hk]; simp)
    exact ⟨k, ρ, h.next E r hs hv hn hvi (.inl ⟨by rw [hk]; rfl, rfl⟩) (fun _ _ => rfl) (.inr rfl) trivial he (hw.iff hpr)⟩
  | soft =>
    obtain ⟨hg, hal⟩ := hck
    rw [h.wanted E r hv hg]
    simp only [if_true]
    left
    have hpr := fun c => PR_same (k := k) (c := c) K hil (fun c => by rw [hk]; simp)
    have hb : befN ks rs i = hi' := by unfold befN; rw [hk, List.getD_eq_getElem?_getD, hri]; rfl
    have hl : loN ks rs i = lo := by unfold loN; rw [hk, List.getD_eq_getElem?_getD, hri]; rfl
    rw [hb] at hup
    rw [hl] at hlo
    obtain ⟨e', he', hsc⟩ := lvC_get (allL_get hal k hlo (by omega))
    rw [he] at he'; cases he'
    have nx : ∀ w', Hw C ρ (PR nE crs listed k) e w' → v.wf (PR nE crs listed k) → ∃ k' ρ', IV C nE m nt ops ks vs rs lv crs sl a0 (listed.setIfInBounds i true) (a.put o.dst (v.den ρ)) w' k' ρ' := fun w' hw' hvw =>
      ⟨k, ρ, h.next E r hs hv hn hvi (.inl ⟨by rw [hk]; rfl, rfl⟩) (fun _ _ => rfl) (.inr rfl) (SV.wf_mono hvw (fun c hc => (hpr c).2 hc)) he (hw'.iff hpr)⟩
    have soft : ∀ op, o.op = op → (match qK C.P C.rd e (ev (jO ops vs i sl)) op with
        | some (p, u) => p ∧ u = v
        | none => False) → o.wp C.P a w (fun a' w' => ∃ k' ρ', IV C nE m nt ops ks vs rs lv crs sl a0 (listed.setIfInBounds i true) a' w' k' ρ') Q := by
      intro op ho hss
      split at hss
      · rename_i p u hu
        obtain ⟨hp, rfl⟩ := hss
        obtain ⟨r1, r2⟩ := softS_at (by rw [ho]; exact hu) hp (fun x u hx hxu => h.opnd E r hv x u hx hxu) (rd_ok hw.up) hw.hp hw.ho
        exact wp_value r1 (nx w hw r2)
      · exact hss.elim
    generalize hop : o.op = op at hsc
    unfold jR at hsc
    split at hsc
    · rename_i f args tys
      split at hsc
      · rename_i xs hxs
        split at hsc
        · rename_i p u hu
          obtain ⟨hwe, hwv, hp, rfl⟩ := hsc
          obtain ⟨g1, _⟩ := h.opnds E r hv args.toList xs (fun x hx => by rw [hop]; exact opT_call x hx) hxs
          have hfl : (jI nE e).length = nE := by rw [firstN_eq, List.length_take]; omega
          have hfe : ∀ c, c < nE → zD (jI nE e) c = zD e c := fun c hc => by rw [nthS_eq, nthS_eq, firstN_eq, List.getElem?_take, if_pos hc]
          obtain ⟨k1, k2, k3⟩ := hctr f _ xs p u hu hp ρ w hw.up (fun c ty cells mu hc hce => by
            rw [hfl] at hc
            have hx := hw.hp c ty cells mu (.inl hc) (by rw [← hfe c hc]; exact hce)
            refine ⟨hx.heap, ?_, hx.dead, hx.non⟩
            rw [hfl]
            exact wfE_ok hwe ⟨ty, cells, mu⟩ (List.mem_of_getElem? (by rw [← nthS_eq]; exact hce))) (fun c ty cells mu hc hce => by
            rw [hfl] at hc
            exact hw.ho c ty cells mu (.inl hc) (by rw [← hfe c hc]; exact hce)) (fun c d hc hd hcl hdl => by
            rw [hfl] at hc hd
            exact hw.inj c d (.inl hc) (.inl hd) (by rw [← hfe c hc]; exact hcl) (by rw [← hfe d hd]; exact hdl)) (fun x hx => by rw [hfl]; exact wfV_ok hwv x hx)
          have hargs : args.map a.eval = (xs.map (SV.den ρ)).toArray := by apply Array.toList_inj.1; simpa using g1
          unfold Oper.wp
          have hx' : (execOp a.eval o).run C.P w = .ok (.enter f (xs.map (SV.den ρ)).toArray) w := by
            simp [execOp, hop, resolve, Act.eval, Deferred.ofValue, invoke, hargs, k1]
          rw [hx']
          simp only [Oper.upon]
          refine k3.mono ?_
          rintro e' w' ⟨rfl, hb'⟩
          rw [hfl] at k2
          exact nx w' (hw.same hb') (SV.wf_mono k2 (fun c hc => .inl hc))
        · exact hsc.elim
      · exact hsc.elim
    · exact soft _ hop hsc
  | flt c =>
    obtain ⟨hg, hc, hcr, hnew⟩ := hck
    rw [nthS_eq] at hcr
    rw [h.wanted E r hv hg]
    simp only [if_true]
    left
    have hpr := fun d => PR_flt (k := k) (c := d) K hil hk hc hcr
    have hb : befN ks rs i = hi' := by unfold befN; rw [hk, List.getD_eq_getElem?_getD, hri]; rfl
    have hl : loN ks rs i = lo := by unfold loN; rw [hk, List.getD_eq_getElem?_getD, hri]; rfl
    rw [hb] at hup
    rw [hl] at hlo
    have hnp : ¬ PR nE crs listed k c := by
      rintro (h1 | ⟨h1, h2⟩)
      · omega
      · rw [hcr] at h2
        have h3 : listed.getD i false = true := h2
        rw [r.un] at h3
        cases h3
    have main : ∀ t l q, v = jG c q → (execOp a.eval o).run C.P w = .ok (.value (match q with | none => .pointer (some ⟨w.heap.size, 0, none⟩) | some n => .slice (some ⟨w.heap.size, 0, none⟩) n n)) (w.alloc (.cells (dens ρ l).toArray t)) → wfs (PR nE crs listed k) l → t ≠ DEAD → zD e c = some ⟨(t, 0, whole), l, true⟩ →
        o.wp C.P a w (fun a' w' => ∃ k' ρ', IV C nE m nt ops ks vs rs lv crs sl a0 (listed.setIfInBounds i true) a' w' k' ρ') Q := by
      intro t l q hvq hrun hwl htd hce
      subst hvq
      unfold Oper.wp
      rw [hrun]
      simp only [Oper.upon]
      have hal := hw.allocAt htd hnp (by omega) hce hwl
      refine ⟨k, _, h.next E r hs hv hn hvi (.inl ⟨by rw [hk]; rfl, rfl⟩) (fun d hd => if_neg (by rintro rfl; exact hnp hd)) (.inr ?_) ?_ he (hal.iff hpr)⟩
      · cases q <;> simp [jG, SV.den, SC.den, ptrOf, updR]
      · cases q <;> exact (hpr c).2 (.inr rfl)
    split at hnew
    · rename_i t l q hnw
      obtain ⟨hvq, hnew⟩ := hnew
      obtain ⟨e', he', hce⟩ := lvC_get (allL_get hnew k hlo (by omega))
      rw [he] at he'; cases he'
      generalize hop : o.op = op at hnw
      unfold jF at hnw
      split at hnw <;> try cases hnw
      · rename_i t'
        split at hnw <;> simp only [Option.some.injEq, Prod.mk.injEq, reduceCtorEq] at hnw
        rename_i sz ag z fs el es kd ik ht
        obtain ⟨rfl, rfl, rfl⟩ := hnw
        obtain ⟨i', d', zv, fs', e', hi'', hu, hz, _, _, hti⟩ := tiOf_some ht
        simp only [TI.mk.injEq] at hti
        obtain ⟨_, _, rfl, _⟩ := hti
        refine main t' _ none hvq ?_ (zero_wf _ _) (ti_dead ht) hce
        rw [zero_den]
        simp [execOp, hop, Instr.alloc, zeroValue, typeInfo, hi'', hz, newVar, newRow, newObj, run_new_]
      · rename_i t' n' ps'
        split at hnw <;> simp only [Option.some.injEq, Prod.mk.injEq, reduceCtorEq] at hnw
        rename_i el l' hl'
        obtain ⟨rfl, rfl, rfl⟩ := hnw
        obtain ⟨b1, b2, b3⟩ := buildSl_ok (w := w) (rv := a.eval) (ρ := ρ) (pr := PR nE crs listed k) hl' (fun x hx u hu => h.opnd E r hv x.2 u (by
          rw [hop]
          simp only [opT, Op.operands, List.toList_toArray, List.mem_map]
          exact ⟨x, hx, rfl⟩) hu)
        refine main _ _ (some n') hvq ?_ b2 b1 hce
        have hps : (ps'.map fun x => (x.1, a.eval x.2)) = (ps'.toList.map fun x => (x.1, a.eval x.2)).toArray := by
          apply Array.toList_inj.1; simp
        simp [execOp, hop]
        rw [hps, b3]
        simp
      · rename_i t' x
        split at hnw <;> try cases hnw
        rename_i v' hv'
        split at hnw <;> try cases hnw
        rename_i l' hl'
        split at hnw <;> simp only [Option.some.injEq, Prod.mk.injEq, reduceCtorEq] at hnw
        rename_i htd
        obtain ⟨rfl, rfl, rfl⟩ := hnw
        obtain ⟨e1, e2⟩ := h.opnd E r hv x v' (by rw [hop]; simp [opT, Op.operands]) hv'
        obtain ⟨c1, c2, c3⟩ := cells_ok (ρ := ρ) hl'
        refine main t' _ none hvq ?_ (c3 _ e2) htd hce
        simp [execOp, hop, Instr.box, newVar, newRow, newObj, run_new_, e1, c1]
    · exact hnew.elim
  | hst j =>
    obtain ⟨hg, hd, rfl, hst⟩ := hck
    rw [h.wanted E r hv hg]
    simp only [if_true]
    left
    have hjk := h.kHard E r (by rw [hk]; rfl)
    subst hjk
    obtain ⟨e', he', hst⟩ := lvC_get hst
    rw [he] at he'; cases he'
    have hpr : ∀ c, PR nE crs (listed.setIfInBounds i true) (j + 1) c ↔ PR nE crs listed j c := fun c => by
      rw [PR_hard K hil (fun c => by rw [hk]; simp)]
      refine ⟨fun hh => hh.resolve_right ?_, .inl⟩
      rintro ⟨_, h2⟩
      obtain ⟨_, i', hi'⟩ := K.ch _ _ h2
      have hil' : i' < ops.length := by rw [← E.len]; exact (List.getElem?_eq_some_iff.1 hi').1
      have := (E.hn i j r.lt (by rw [hk]; rfl)).2 i' hil' (by rw [hi']; rfl)
      subst this
      rw [hk] at hi'; cases hi'
    split at hst
    · rename_i en' hse
      generalize hop : o.op = op at hse
      unfold jH at hse
      split at hse <;> try cases hse
      rename_i t x y
      split at hse <;> try cases hse
      rename_i sz ag z fs el es kd ik c off v' ht hx hy
      split at hse <;> try cases hse
      rename_i ty cells hce
      split at hse <;> try cases hse
      rename_i vs' hvs
      split at hse <;> try cases hse
      rename_i hsz
      split at hse <;> simp only [Option.some.injEq, reduceCtorEq] at hse
      rename_i l hl
      subst hse
      obtain ⟨i', d', zv, fs', e', hi'', hu, hz, _, _, hti⟩ := tiOf_some ht
      simp only [TI.mk.injEq] at hti
      obtain ⟨rfl, _⟩ := hti
      obtain ⟨e1, e2⟩ := h.opnd E r hv x _ (by rw [hop]; simp [opT, Op.operands]) hx
      obtain ⟨f1, f2⟩ := h.opnd E r hv y _ (by rw [hop]; simp [opT, Op.operands]) hy
      obtain ⟨c1, c2, c3⟩ := cells_ok (ρ := ρ) hvs
      obtain ⟨w', hrun, hw'⟩ := hw.store (fun c hc => by rw [hel]; exact PR_len hc) e2 hce hl (c3 _ f2) c2
      have hsz' : (dens ρ vs').length = i'.size := by rw [← hsz, lenN_eq, dens_len]
      unfold Oper.wp
      have hx' : (execOp a.eval o).run C.P w = .ok .skip w' := by
        have e1' : a.eval x = .pointer (some ⟨(ρ c).blk, (ρ c).pre.length + off, none⟩) := e1
        simp [execOp, hop, Instr.storeAt, Instr.sureAddr, e1', f1, storeVar, run_sizeOf hi'', hsz', c1, hrun]
      rw [hx']
      simp only [Oper.upon]
      refine ⟨j + 1, ρ, ?_⟩
      have := h.next E r hs hv hn hvi (k' := j + 1) (.inr ⟨by rw [hk]; rfl, rfl⟩) (ρ' := ρ) (fun _ _ => rfl) (x := undef) (.inl hd) trivial hst (hw'.iff hpr)
      exact this
    · exact hst.elim
  | hcl j =>
    obtain ⟨hg, hcl⟩ := hck
    rw [h.wanted E r hv hg]
    simp only [if_true]
    left
    have hjk := h.kHard E r (by rw [hk]; rfl)
    subst hjk
    obtain ⟨e', he', hcl⟩ := lvC_get hcl
    rw [he] at he'; cases he'
    obtain ⟨en', hen', hcl⟩ := lvC_get hcl
    have hpr : ∀ c, PR nE crs (listed.setIfInBounds i true) (j + 1) c ↔ (PR nE crs listed j c ∨ mkC nE crs j c) := fun c => PR_hard K hil (fun c => by rw [hk]; simp)
    generalize hop : o.op = op at hcl
    unfold jU at hcl
    split at hcl
    · rename_i f args tys
      split at hcl
      · rename_i xs hxs
        obtain ⟨g1, g2⟩ := h.opnds E r hv args.toList xs (fun x hx => by rw [hop]; exact opT_call x hx) hxs
        obtain ⟨k1, k2⟩ := hcl
        have hargs : args.map a.eval = (xs.map (SV.den ρ)).toArray := by apply Array.toList_inj.1; simpa using g1
        unfold Oper.wp
        have hx' : (execOp a.eval o).run C.P w = .ok (.enter f (xs.map (SV.den ρ)).toArray) w := by
          simp [execOp, hop, resolve, Act.eval, Deferred.ofValue, invoke, hargs, k1]
        rw [hx']
        simp only [Oper.upon]
        refine (k2 ρ _ w (fun c hc => .inl hc) (fun c hc hp => ?_) hw hne g2).mono ?_
        · obtain ⟨hc1, hc2⟩ := hc
          rcases hp with hp | ⟨_, hp⟩
          · omega
          · rw [hc2] at hp
            have hp' : j < j := hp
            omega
        · rintro e' w' ⟨ρ', hρ, rfl, hvw, hw', _⟩
          exact ⟨j + 1, ρ', h.next E r hs hv hn hvi (.inr ⟨by rw [hk]; rfl, rfl⟩) hρ (.inr rfl) (SV.wf_mono hvw (fun c hc => (hpr c).2 hc)) hen' (hw'.iff hpr)⟩
      · exact hcl.elim
    · rename_i args tys
      split at hcl
      · rename_i xs hxs
        obtain ⟨g1, g2⟩ := h.opnds E r hv args.toList xs (fun x hx => by rw [hop]; exact opT_app x hx) hxs
        have hargs : args.map a.eval = (xs.map (SV.den ρ)).toArray := by apply Array.toList_inj.1; simpa using g1
        obtain ⟨ρ', w', k1, hρ, hvw, hw'⟩ := hcl ρ _ w (fun c hc => .inl hc) (fun c hc hp => by
          obtain ⟨hc1, hc2⟩ := hc
          rcases hp with hp | ⟨_, hp⟩
          · omega
          · rw [hc2] at hp
            have hp' : j < j := hp
            omega) hw hne g2 o.type
        have hx' : (execOp a.eval o).run C.P w = .ok (.value (v.den ρ')) w' := by
          simp [execOp, hop, resolve, invoke, builtin, hargs, k1]
        unfold Oper.wp
        rw [hx']
        simp only [Oper.upon]
        exact ⟨j + 1, ρ', h.next E r hs hv hn hvi (.inr ⟨by rw [hk]; rfl, rfl⟩) hρ (.inr rfl) (SV.wf_mono hvw (fun c hc => (hpr c).2 hc)) hen' (hw'.iff hpr)⟩
      · exact hcl.elim
    · exact hcl.elim
theorem slAt_all : ∀ {os : List Oper} {vs : List SV} {sl : List (Nat × SV)} {t : Nat} {u : SV}, qy (jO os vs os.length sl) t = some u → vs.length = os.length →
    (∃ (j : Nat) (o : Oper), os[j]? = some o ∧ o.dst = some t ∧ vs[j]? = some u) ∨ ((∀ (j : Nat) (o : Oper), os[j]? = some o → o.dst ≠ some t) ∧ qy sl t = some u) := by
  intro os vs sl t u h hl
  rcases slAt_get h hl with ⟨j, o, _, h1, h2, h3⟩ | ⟨h1, h2⟩
  · exact .inl ⟨j, o, h1, h2, h3⟩
  · exact .inr ⟨fun j o ho => h1 j o (List.getElem?_eq_some_iff.1 ho).1 ho, h2⟩
theorem Run_draw {ctr : Ctr} (hctr : CtrOk C ctr) (hm : C.P.follows .mixedOrders = true) {en enF : List EN} {id : Nat} {k : List KI} (hE : ckE ops ks rs m = true) (hC : ckC nE ks crs m = true) (hL : lenB lv (nE + crs.length) = true) (hN : ntB ops nt = true)
    (hv : vs.length = ops.length) (hen : en.length = nE) (h0 : ∃ e, zD lv 0 = some e ∧ jI nE e = en) (hF : zD lv m = some enF) (hD : jS C ctr nE ops lv crs 0 ops ks vs rs sl)
    (hK : Run C k nt (jO ops vs ops.length sl) enF) : Run C (.code (.region id ops.toArray true) :: k) nt sl en := by
  intro ρ a w hr
  have E := ckE_ok hE
  have K := ckC_ok hC
  have hL' := lenB_ok hL
  obtain ⟨e0, he0, hfe⟩ := h0
  have hel : e0.length = nE + crs.length := hL' e0 (by rw [nthS_eq] at he0; exact List.mem_of_getElem? he0)
  have hfc : ∀ c, c < nE → zD e0 c = zD en c := fun c hc => by rw [← hfe, firstN_eq, nthS_eq, nthS_eq, List.getElem?_take, if_pos hc]
  have hne : ∀ j, (Array.replicate ops.toArray.size false).getD j false = false := fun j => by
    simp only [Array.getD_eq_getD_getElem?, Array.getElem?_replicate]
    split <;> rfl
  have hp0 : ∀ c, PR nE crs (Array.replicate ops.toArray.size false) 0 c ↔ c < en.length := fun c => by
    rw [hen]
    refine ⟨?_, .inl⟩
    rintro (h | ⟨_, h⟩)
    · exact h
    · split at h
      · rw [hne] at h; cases h
      · omega
      · exact h.elim
  refine wp_region_any (ops := ops.toArray) (w := w) hm ?_
  refine wpAny_of_inv (fun listed a' w' => ∃ k' ρ', IV C nE m nt ops ks vs rs lv crs sl a listed a' w' k' ρ') ?_ ?_ _ _ _ _ (by simp) (by
    have : ∀ n, unl (List.replicate n false) = n := by
      intro n
      induction n with
      | zero => rfl
      | succ n ih => simp [List.replicate_succ, unl, ih]; omega
    rw [Array.toList_replicate, this]
    exact Nat.le_refl _) ⟨0, ρ, ?_⟩
  · rintro listed a' w' i hs ⟨k', ρ', hiv⟩ hi
    exact draw_step hctr E K hL' (ntB_ok hN) hv (by rw [← hen]; exact hr.n0) hD (by simpa using hs) hiv hi
  · rintro listed a' w' hs ⟨k', ρ', h⟩ hrd
    have hs' : listed.size = ops.length := by simpa using hs
    -- all are done
    have all : ∀ n i, i < n → i < ops.length → listed.getD i false = true := by
      intro n
      induction n with
      | zero => intro i hi; omega
      | succ n ih =>
        intro i hin hil
        cases hli : listed.getD i false with
        | true => rfl
        | false =>
          exfalso
          have hmem : i ∈ Region.ready .any ops.toArray listed := by
            unfold Region.ready
            simp only [List.mem_filter, List.mem_range, Bool.and_eq_true, Bool.not_eq_true']
            refine ⟨by simpa using hil, ?_, ?_⟩
            · have hlt : i < listed.size := by omega
              simp only [Array.getD_eq_getD_getElem?, Array.getElem?_eq_getElem hlt, Option.getD_some] at hli ⊢
              exact hli
            · rw [List.getElem?_toArray, List.getElem?_eq_getElem hil]
              simp only [Option.map_some, Option.getD_some]
              rw [Array.all_eq_true_iff_forall_mem]
              intro e he
              by_cases hb : Region.binds .any e = true
              · have hlt := E.up i _ e (List.getElem?_eq_getElem hil) (by simpa using he) hb
                simp [hb, ih e.on (by omega) (by omega)]
              · simp [hb]
          rw [hrd] at hmem
          cases hmem
    have hall : ∀ i, i < ops.length → listed.getD i false = true := fun i hi => all (i + 1) i (by omega) hi
    have hkm : k' = m := by
      rcases Nat.lt_or_ge k' m with hlt | hge
      · obtain ⟨i, hi, hj⟩ := K.cj k' hlt
        have := (h.hard i k' hj).1 (hall i (by rw [← E.len]; exact hi))
        omega
      · have := h.le; omega
    subst hkm
    obtain ⟨e, he, hw⟩ := h.wd
    rw [hF] at he
    cases he
    have heF : enF.length = nE + crs.length := hL' enF (by rw [nthS_eq] at hF; exact List.mem_of_getElem? hF)
    have hpF : ∀ c, c < enF.length ↔ PR nE crs listed k' c := fun c => by
      refine ⟨fun hc => ?_, fun hc => by rw [heF]; exact PR_len hc⟩
      rcases Nat.lt_or_ge c nE with h1 | h1
      · exact .inl h1
      · refine .inr ⟨h1, ?_⟩
        have hq : c - nE < crs.length := by omega
        rw [List.getElem?_eq_getElem hq]
        cases hcr : crs[c - nE] with
        | f i => exact hall i (by rw [← E.len]; exact (K.cf (c - nE) i (by rw [List.getElem?_eq_getElem hq, hcr])).1)
        | h j => exact (K.ch (c - nE) j (by rw [List.getElem?_eq_getElem hq, hcr])).1
    refine hK ρ' a' w' ⟨hw.iff hpF, ?_, h.sz, h.df, ?_⟩
    · intro d v hd
      rcases slAt_all hd hv with ⟨j, o, ho, hod, hvj⟩ | ⟨hn, hb⟩
      · obtain ⟨h1, h2⟩ := h.tm j o v d (hall j (List.getElem?_eq_some_iff.1 ho).1) ho hvj hod
        exact ⟨h1, SV.wf_mono h2 (fun c hc => (hpF c).2 hc)⟩
      · obtain ⟨h1, h2⟩ := h.base d v hb
        exact ⟨(h.old d (fun i o _ ho => hn i o ho)).trans h1, SV.wf_mono h2 (fun c hc => (hpF c).2 (.inl hc))⟩
    · have := hr.n0; omega
  · refine ⟨Nat.zero_le _, ?_, ?_, ?_, ?_, ⟨e0, he0, ?_⟩, ?_, ?_, ?_, hr.sz, hr.df⟩
    · intro i j _
      rw [hne]
      simp
    · intro i o e hi; rw [hne] at hi; cases hi
    · intro i hi; rw [hne] at hi; cases hi
    · intro i _ _; exact Nat.zero_le _
    · have h1 := hr.hw.drew
      have h2 : Hw C ρ (· < en.length) e0 { w with drawn := w.drawn + 1 } :=
        ⟨fun c ty cells mu hc hce => h1.hp c ty cells mu hc (by rw [← hfc c (by omega)]; exact hce), fun c ty cells mu hc hce => h1.ho c ty cells mu hc (by rw [← hfc c (by omega)]; exact hce), fun c d hc hd hcl hdl => h1.inj c d hc hd (by rw [← hfc c (by omega)]; exact hcl) (by rw [← hfc d (by omega)]; exact hdl), h1.up, fun c ty cells hc hce => h1.mu c ty cells hc (by rw [← hfc c (by omega)]; exact hce), h1.ini⟩
      exact h2.iff hp0
    · intro i o v d hi; rw [hne] at hi; cases hi
    · intro t _; rfl
    · intro t u hu
      rw [← hen]
      exact hr.tm t u hu
end
end Go.Proofs.YtehfcboiimdkbaaGreatDoor
/- The walk of a drawn region in the text's order, as a computation; calls that change memory, met by hand. -/
namespace Go.Proofs.YtehfcboiimdkbaaGreatDoor
set_option linter.unusedSimpArgs false
set_option linter.unusedVariables false
open Go.RowKit
structure DD where
  ks : List Kd
  vs : List SV
  lv : List (List EN)
  crs : List Cr
  m : Nat
structure HC where
  v : SV
  en : List EN
def jJ (x : EN) : List (List EN) → List (List EN)
  | [] => []
  | l :: r => zF l x :: jJ x r
def jK (xs : List EN) : List (List EN) → List (List EN)
  | [] => []
  | l :: r => qA l xs :: jK xs r
def jL {α : Type} : Nat → List α → List α
  | 0, l => l
  | _ + 1, [] => []
  | n + 1, _ :: l => jL n l
def jM {α : Type} (x : α) : List EN → List α
  | [] => []
  | _ :: l => x :: jM x l
def jC (k : Kd) (v : SV) : Option DD → Option DD
  | some ⟨ks, vs, lv, crs, m⟩ => some ⟨k :: ks, v :: vs, lv, crs, m⟩
  | none => none
def cO (P : Program) (rd : Rd) (ctr : Ctr) (nE i : Nat) (en : List EN) (lv : List (List EN)) (crs : List Cr) (m : Nat) (hs : List HC) (sl : List (Nat × SV)) : Op → Option (Kd × SV × List (List EN) × List Cr × Nat × List HC)
  | .call ⟨.value (.func f), args, _⟩ => match qw sl args.toList with
    | some xs => match ctr f (jI nE en) xs with
      | some (_, u) => some (.soft, u, lv, crs, m, hs)
      | none => match hs with
        | ⟨v, en'⟩ :: hs' => some (.hcl m, v, zF (jK (jL (zG en) en') lv) en', qA crs (jM (.h m) (jL (zG en) en')), m + 1, hs')
        | [] => none
    | none => none
  | .store t a x => match jH P sl en (.store t a x) with
    | some en' => some (.hst m, .c .u, zF lv en', crs, m + 1, hs)
    | none => none
  | .buildSlice t n ps => match jF P sl (.buildSlice t n ps) with
    | some (t, l, q) => some (.flt (zG en), jG (zG en) q, jJ ⟨(t, 0, whole), l, true⟩ lv, zF crs (.f i), m, hs)
    | none => none
  | .alloc t => match jF P sl (.alloc t) with
    | some (t, l, q) => some (.flt (zG en), jG (zG en) q, jJ ⟨(t, 0, whole), l, true⟩ lv, zF crs (.f i), m, hs)
    | none => none
  | .box t x => match jF P sl (.box t x) with
    | some (t, l, q) => some (.flt (zG en), jG (zG en) q, jJ ⟨(t, 0, whole), l, true⟩ lv, zF crs (.f i), m, hs)
    | none => none
  | op => match qK P rd en (ev sl) op with
    | some (_, u) => some (.soft, u, lv, crs, m, hs)
    | none => none
def cD (P : Program) (rd : Rd) (ctr : Ctr) (nE : Nat) (all : List Oper) : List Oper → Nat → List (Nat × SV) → List (List EN) → List Cr → Nat → List HC → Option DD
  | [], _, _, lv, crs, m, _ => some ⟨[], [], lv, crs, m⟩
  | ⟨dst, op, _, _, _, gd⟩ :: os, i, sl, lv, crs, m, hs => match jD all sl gd with
    | some false => jC .skip (.c .u) (cD P rd ctr nE all os (i + 1) (jN dst (.c .u) sl) lv crs m hs)
    | some true => match zD lv m with
      | some en => match cO P rd ctr nE i en lv crs m hs sl op with
        | some (k, v, lv', crs', m', hs') => jC k v (cD P rd ctr nE all os (i + 1) (jN dst v sl) lv' crs' m' hs')
        | none => none
      | none => none
    | none => none
inductive Cmp {α : Type} (a : Option α) (b : α) : Prop
  | mk
theorem Cmp.of {α : Type} {a : Option α} {b : α} (_ : a = some b) : Cmp a b := .mk
theorem lenB_one (en : List EN) : lenB [en] (zG en + zG ([] : List Cr)) = true := by simp [lenB, zG]
theorem firstN_self {α : Type} (l : List α) : jI (zG l) l = l := by rw [firstN_eq, lenN_eq, List.take_length]
section
variable {C : Cx} {nt : Nat} {sl : List (Nat × SV)} {en : List EN} {k : List KI}
theorem Run_drawD {ctr : Ctr} (hctr : CtrOk C ctr) (hm : C.P.follows .mixedOrders = true) (rs : List (Nat × Nat)) (hs : List HC) {id : Nat} {os : List Oper} {D : DD} (_hcd : Cmp (cD C.P C.rd ctr (zG en) os os 0 sl [en] [] 0 hs) D) (hE : ckE os D.ks rs D.m = true) (hC : ckC (zG en) D.ks D.crs D.m = true) (hL : lenB D.lv (zG en + zG D.crs) = true) (hN : ntB os nt = true)
    (hv : zG D.vs = zG os) {e0 : List EN} (h0 : zD D.lv 0 = some e0) (h0' : jI (zG en) e0 = en) {enF : List EN} (hF : zD D.lv D.m = some enF) (hD : jS C ctr (zG en) os D.lv D.crs 0 os D.ks D.vs rs sl)
    (hK : Run C k nt (zJ C.kp (jO os D.vs (zG os) sl)) enF) : Run C (.code (.region id os.toArray true) :: k) nt sl en := by
  simp only [lenN_eq] at hC hL hD h0' hv hK
  refine Run_draw hctr hm hE hC hL hN hv rfl ⟨e0, h0, h0'⟩ hF hD ?_
  intro ρ a w hr
  exact hK ρ a w (hr.trim _)
theorem Run_hcall {dst : Option Nat} {f : FuncId} {args : Array Operand} {tys : Array TypeId} {ty : TypeId} {pos : String} {af : Array Edge} {all r : List Oper} {xs : List SV} (hxs : qw sl args.toList = some xs) (v : SV) (en' : List EN)
    (hH : HCall C (zG en) (fun c => zG en ≤ c ∧ c < zG en') en en' f xs v) (hn : zG en ≤ zG en') (hd : ∀ d, dst = some d → d < nt) (hK : Run C (.ops all r :: k) nt (jN dst v sl) en') :
    Run C (.ops all (⟨dst, .call ⟨.value (.func f), args, tys⟩, ty, pos, af, none⟩ :: r) :: k) nt sl en := by
  intro ρ a w hr
  rw [lenN_eq] at hn
  rw [lenN_eq] at hn
  obtain ⟨k1, k2⟩ := hH
  obtain ⟨g1, g2⟩ := hr.evs_ok _ _ hxs
  have hargs : args.map a.eval = (xs.map (SV.den ρ)).toArray := by apply Array.toList_inj.1; simpa using g1
  rw [KQ_ops]
  unfold wpList
  rw [if_pos (by simp [Region.wanted])]
  left
  unfold Oper.wp
  have hx' : (execOp a.eval ⟨dst, .call ⟨.value (.func f), args, tys⟩, ty, pos, af, none⟩).run C.P w = .ok (.enter f (xs.map (SV.den ρ)).toArray) w := by
    simp [execOp, resolve, Act.eval, Deferred.ofValue, invoke, hargs, k1]
  rw [hx']
  simp only [Oper.upon]
  refine (k2 ρ (· < en.length) w (fun c hc => by rw [lenN_eq] at hc; exact hc) (fun c hc => by rw [lenN_eq] at hc; omega) hr.hw (fun c hc => by rw [nthS_eq, List.getElem?_eq_getElem hc]; simp) g2).mono ?_
  rintro e w' ⟨ρ', hρ, rfl, hvw, hw', _⟩
  have hiff : ∀ c, c < en'.length ↔ (c < en.length ∨ (zG en ≤ c ∧ c < zG en')) := fun c => by rw [lenN_eq, lenN_eq]; omega
  have hr1 : Rep C ρ' nt sl en' a w' := by
    refine ⟨hw'.iff hiff, fun d u hd => ?_, hr.sz, hr.df, by have := hr.n0; omega⟩
    obtain ⟨h1, h2⟩ := hr.tm d u hd
    rw [SV.den_congr h2 hρ]
    exact ⟨h1, SV.wf_mono h2 (fun c hc => by omega)⟩
  refine hK ρ' _ w' ?_
  cases dst with
  | none => exact hr1
  | some d => exact hr1.put (hd d rfl) (SV.wf_mono hvw (fun c hc => (hiff c).2 hc))
end
end Go.Proofs.YtehfcboiimdkbaaGreatDoor
/- A walk that stops at an open branch. -/
namespace Go.Proofs.YtehfcboiimdkbaaGreatDoor
set_option linter.unusedSimpArgs false
set_option linter.unusedVariables false
open Go.RowKit
def opG : Bool → Program → Rd → Ctr → Nat → (List (Nat × SV) → List EN → Prop) → Prop → Option Nat → List (Nat × SV) → List EN → Op → Prop
  | true, P, rd, ctr, nt, K, stop, dst, sl, en, op => qH P rd ctr nt K stop dst sl en op
  | false, _, _, _, _, _, stop, _, _, _, _ => stop
def putG : Bool → Nat → (List (Nat × SV) → List EN → Prop) → Prop → Option Nat → SV → List (Nat × SV) → List EN → Prop
  | true, nt, K, stop, dst, v, sl, en => qI nt K stop dst v sl en
  | false, _, _, stop, _, _, _, _ => stop
theorem jZ {P : Program} {rd : Rd} {ctr : Ctr} {nt : Nat} {K : List (Nat × SV) → List EN → Prop} {stop : Prop} {dst : Option Nat} {sl : List (Nat × SV)} {en : List EN} {op : Op} : opG true P rd ctr nt K stop dst sl en op = qH P rd ctr nt K stop dst sl en op := rfl
theorem ja {P : Program} {rd : Rd} {ctr : Ctr} {nt : Nat} {K : List (Nat × SV) → List EN → Prop} {stop : Prop} {dst : Option Nat} {sl : List (Nat × SV)} {en : List EN} {op : Op} : opG false P rd ctr nt K stop dst sl en op = stop := rfl
theorem jd {nt : Nat} {K : List (Nat × SV) → List EN → Prop} {stop : Prop} {dst : Option Nat} {v : SV} {sl : List (Nat × SV)} {en : List EN} : putG true nt K stop dst v sl en = qI nt K stop dst v sl en := rfl
theorem je {nt : Nat} {K : List (Nat × SV) → List EN → Prop} {stop : Prop} {dst : Option Nat} {v : SV} {sl : List (Nat × SV)} {en : List EN} : putG false nt K stop dst v sl en = stop := rfl
section
variable {C : Cx} {ρ : Nat → RE} {nt : Nat} {sl : List (Nat × SV)} {en : List EN} {a : Act} {w : World}
variable {K : Act → World → Prop} {Q : Exit → Act → World → Prop}
end
end Go.Proofs.YtehfcboiimdkbaaGreatDoor
/- Calls that change memory told by what they add; operations met by hand. -/
namespace Go.Proofs.YtehfcboiimdkbaaGreatDoor
set_option linter.unusedSimpArgs false
set_option linter.unusedVariables false
open Go.RowKit
abbrev HF := List EN → SV × List EN
def jB (f : Nat → SV) (e : Nat → EN) : HF := fun en => (f (zG en), zF en (e (zG en)))
def jA (P : Program) (rd : Rd) (ctr : Ctr) (nE i : Nat) (en : List EN) (lv : List (List EN)) (crs : List Cr) (m : Nat) (hs : List HF) (sl : List (Nat × SV)) : Op → Option (Kd × SV × List (List EN) × List Cr × Nat × List HF)
  | .call ⟨.value (.func f), args, _⟩ => match qw sl args.toList with
    | some xs => match ctr f (jI nE en) xs with
      | some (_, u) => some (.soft, u, lv, crs, m, hs)
      | none => match hs with
        | h :: hs' => match h en with
          | (v, en') => some (.hcl m, v, zF (jK (jL (zG en) en') lv) en', qA crs (jM (.h m) (jL (zG en) en')), m + 1, hs')
        | [] => none
    | none => none
  | .call ⟨.builtin .append, _, _⟩ => match hs with
    | h :: hs' => match h en with
      | (v, en') => some (.hcl m, v, zF (jK (jL (zG en) en') lv) en', qA crs (jM (.h m) (jL (zG en) en')), m + 1, hs')
    | [] => none
  | .store t a x => match jH P sl en (.store t a x) with
    | some en' => some (.hst m, .c .u, zF lv en', crs, m + 1, hs)
    | none => none
  | .buildSlice t n ps => match jF P sl (.buildSlice t n ps) with
    | some (t, l, q) => some (.flt (zG en), jG (zG en) q, jJ ⟨(t, 0, whole), l, true⟩ lv, zF crs (.f i), m, hs)
    | none => none
  | .alloc t => match jF P sl (.alloc t) with
    | some (t, l, q) => some (.flt (zG en), jG (zG en) q, jJ ⟨(t, 0, whole), l, true⟩ lv, zF crs (.f i), m, hs)
    | none => none
  | .box t x => match jF P sl (.box t x) with
    | some (t, l, q) => some (.flt (zG en), jG (zG en) q, jJ ⟨(t, 0, whole), l, true⟩ lv, zF crs (.f i), m, hs)
    | none => none
  | op => match qK P rd en (ev sl) op with
    | some (_, u) => some (.soft, u, lv, crs, m, hs)
    | none => none
def cE (P : Program) (rd : Rd) (ctr : Ctr) (nE : Nat) (all : List Oper) : List Oper → Nat → List (Nat × SV) → List (List EN) → List Cr → Nat → List HF → Option DD
  | [], _, _, lv, crs, m, _ => some ⟨[], [], lv, crs, m⟩
  | ⟨dst, op, _, _, _, gd⟩ :: os, i, sl, lv, crs, m, hs => match jD all sl gd with
    | some false => jC .skip (.c .u) (cE P rd ctr nE all os (i + 1) (jN dst (.c .u) sl) lv crs m hs)
    | some true => match zD lv m with
      | some en => match jA P rd ctr nE i en lv crs m hs sl op with
        | some (k, v, lv', crs', m', hs') => jC k v (cE P rd ctr nE all os (i + 1) (jN dst v sl) lv' crs' m' hs')
        | none => none
      | none => none
    | none => none
section
variable {C : Cx} {nt : Nat} {sl : List (Nat × SV)} {en : List EN} {k : List KI}
theorem Run_drawE {ctr : Ctr} (hctr : CtrOk C ctr) (hm : C.P.follows .mixedOrders = true) (rs : List (Nat × Nat)) (hs : List HF) {id : Nat} {os : List Oper} {D : DD} (_hcd : Cmp (cE C.P C.rd ctr (zG en) os os 0 sl [en] [] 0 hs) D) (hE : ckE os D.ks rs D.m = true) (hC : ckC (zG en) D.ks D.crs D.m = true) (hL : lenB D.lv (zG en + zG D.crs) = true) (hN : ntB os nt = true)
    (hv : zG D.vs = zG os) {e0 : List EN} (h0 : zD D.lv 0 = some e0) (h0' : jI (zG en) e0 = en) {enF : List EN} (hF : zD D.lv D.m = some enF) (hD : jS C ctr (zG en) os D.lv D.crs 0 os D.ks D.vs rs sl)
    (hK : Run C k nt (zJ C.kp (jO os D.vs (zG os) sl)) enF) : Run C (.code (.region id os.toArray true) :: k) nt sl en :=
  Run_drawD hctr hm rs [] (D := D) Cmp.mk hE hC hL hN hv h0 h0' hF hD hK
variable {dst : Option Nat} {op : Op} {ty : TypeId} {pos : String} {af : Array Edge} {all r : List Oper}
theorem Run_soft1 (v : SV) (hx : ∀ ρ a w, Rep C ρ nt sl en a w → (execOp a.eval ⟨dst, op, ty, pos, af, none⟩).run C.P w = .ok (.value (v.den ρ)) w ∧ v.wf (· < en.length)) (hd : ∀ d, dst = some d → d < nt) (hK : Run C (.ops all r :: k) nt (jN dst v sl) en) :
    Run C (.ops all (⟨dst, op, ty, pos, af, none⟩ :: r) :: k) nt sl en := by
  intro ρ a w hr
  obtain ⟨h1, h2⟩ := hx ρ a w hr
  rw [KQ_ops]
  unfold wpList
  rw [if_pos (by simp [Region.wanted])]
  left
  unfold Oper.wp
  rw [h1]
  simp only [Oper.upon]
  refine hK ρ _ w ?_
  cases dst with
  | none => exact hr
  | some d => exact hr.put (hd d rfl) h2
end
end Go.Proofs.YtehfcboiimdkbaaGreatDoor
/- Short names for laws of Lean's own that the walk rewrites by, and one for what the program says of its types. -/
namespace Go.Proofs.YtehfcboiimdkbaaGreatDoor
set_option linter.unusedSimpArgs false
set_option linter.unusedVariables false
universe u v
theorem zP {α : Type u} (a b : α) : (bif true then a else b) = a := rfl
theorem zQ {α : Type u} (a b : α) : (bif false then a else b) = b := rfl
theorem zR (p : Prop) : (True ∧ p) = p := true_and p
theorem zS (p : Prop) : (p ∧ True) = p := and_true p
theorem zT (p : Prop) : (p ∧ p) = p := and_self p
theorem zU {α : Sort u} (a : α) : (a = a) = True := eq_self a
theorem zV : (!true) = false := rfl
theorem zW : (!false) = true := rfl
theorem zX {α : Type u} (l : List α) : l.toArray.toList = l := rfl
theorem zY {α : Type u} {β : Type v} (f : α → β) (l : Array α) : (l.map f).toList = l.toList.map f := Array.toList_map
theorem zZ {α : Type u} {β : Type v} (f : α → β) (a : α) (l : List α) : (a :: l).map f = f a :: l.map f := rfl
theorem za {α : Type u} {β : Type v} (f : α → β) : ([] : List α).map f = [] := rfl
theorem zb (p : Prop) : (True → p) = p := by simp
theorem zc (p : Prop) : (False → p) = True := by simp
theorem zd {α : Type u} [BEq α] [LawfulBEq α] (a b : α) : ((a == b) = true) = (a = b) := by simp
theorem ze {α : Type u} [BEq α] [LawfulBEq α] (a b : α) : ((a == b) = false) = ¬ a = b := by simp
theorem zf (p : Prop) [Decidable p] : (decide p = true) = p := by simp
theorem zg (p : Prop) [Decidable p] : (decide p = false) = ¬ p := by simp
theorem zh (n : Nat) : ((n : Int)).toNat = n := Int.toNat_natCast n
theorem zi {α : Sort u} (a b : α) : (a ≠ b) = ¬ (a = b) := rfl
theorem zj (a b c : Prop) : (a ∧ b → c) = (a → b → c) := by simp
theorem zk {α : Type u} (a : α) (l : List α) : (a :: l).length = l.length + 1 := rfl
theorem zl {α : Type u} : ([] : List α).length = 0 := rfl
theorem zm (n : Nat) : n - n = 0 := Nat.sub_self n
theorem zn (n : Nat) : n - 0 = n := rfl
theorem zo [Decidable True] : decide True = true := by simp
theorem zp [Decidable False] : decide False = false := by simp
theorem zq (n : Nat) : (n ≤ n) = True := by simp
theorem zr (n : Nat) : (0 ≤ n) = True := by simp
theorem zt (n : Nat) : 0 + n = n := Nat.zero_add n
theorem zu (n : Nat) : n + 0 = n := rfl
theorem zw (b : Bool) : (false && b) = false := rfl
theorem zx (b : Bool) : (true && b) = b := rfl
theorem zy (b : Bool) : (true == b) = b := by cases b <;> rfl
theorem zz (b : Bool) : (false == b) = !b := by cases b <;> rfl
end Go.Proofs.YtehfcboiimdkbaaGreatDoor
/- A walk forgets entries and slots that are no longer needed; operations met by hand, guarded ones too. -/
namespace Go.Proofs.YtehfcboiimdkbaaGreatDoor
set_option linter.unusedSimpArgs false
set_option linter.unusedVariables false
open Go.RowKit
section
variable {C : Cx} {nt : Nat} {sl : List (Nat × SV)} {en : List EN} {k : List KI}
def keepS (f : Nat → Nat) (n : Nat) (sl : List (Nat × SV)) : List (Nat × SV) → Prop
  | [] => True
  | (d, v) :: r => (v.wf (· < n) ∧ ∃ v', qy sl d = some v' ∧ ∀ ρ : Nat → RE, v.den (fun c => ρ (f c)) = v'.den ρ) ∧ keepS f n sl r
theorem keepS_get {f : Nat → Nat} {n : Nat} {sl : List (Nat × SV)} : ∀ {s : List (Nat × SV)}, keepS f n sl s → ∀ d v, qy s d = some v → v.wf (· < n) ∧ ∃ v', qy sl d = some v' ∧ ∀ ρ : Nat → RE, v.den (fun c => ρ (f c)) = v'.den ρ
  | [], _, d, v, h => by simp [qy] at h
  | (e, u) :: s, hs, d, v, h => by
    simp only [qy] at h
    split at h
    · rename_i e'; subst e'; simp only [Option.some.injEq] at h; subst h; exact hs.1
    · exact keepS_get hs.2 d v h
def keepE (f : Nat → Nat) (n : Nat) (en : List EN) : Nat → List EN → Prop
  | _, [] => True
  | i, e :: r => (∃ cs, zD en (f i) = some ⟨e.ty, cs, e.mu⟩ ∧ (∀ ρ : Nat → RE, dens (fun c => ρ (f c)) e.cells = dens ρ cs) ∧ wfs (· < n) e.cells) ∧ keepE f n en (i + 1) r
theorem keepE_get {f : Nat → Nat} {n : Nat} {en : List EN} : ∀ (l : List EN) (i c : Nat) (e : EN), keepE f n en i l → zD l c = some e → ∃ cs, zD en (f (i + c)) = some ⟨e.ty, cs, e.mu⟩ ∧ (∀ ρ : Nat → RE, dens (fun c => ρ (f c)) e.cells = dens ρ cs) ∧ wfs (· < n) e.cells
  | [], i, c, e, _, h => by simp [zD] at h
  | x :: l, i, 0, e, hk, h => by
    simp only [zD, Option.some.injEq] at h; subst h; exact hk.1
  | x :: l, i, c + 1, e, hk, h => by
    have := keepE_get l (i + 1) c e hk.2 (by simpa [zD] using h)
    rwa [show i + 1 + c = i + (c + 1) by omega] at this
theorem Rep.keep {ρ : Nat → RE} {a : Act} {w : World} {f : Nat → Nat} {enK : List EN} {slK : List (Nat × SV)} (hr : Rep C ρ nt sl en a w) (hn0 : (∀ c, c < C.n0 → f c = c) ∧ C.n0 ≤ enK.length) (hf : ∀ c d, c < enK.length → d < enK.length → f c = f d → c = d)
    (hen : keepE f enK.length en 0 enK) (hsl : keepS f enK.length sl slK) : Rep C (fun c => ρ (f c)) nt slK enK a w := by
  have hlt : ∀ c ty cells mu, zD enK c = some ⟨ty, cells, mu⟩ → ∃ cs, zD en (f c) = some ⟨ty, cs, mu⟩ ∧ (∀ ρ : Nat → RE, dens (fun c => ρ (f c)) cells = dens ρ cs) ∧ wfs (· < enK.length) cells ∧ f c < en.length := by
    intro c ty cells mu hc
    obtain ⟨cs, h1, h2, h3⟩ := keepE_get enK 0 c _ hen hc
    rw [Nat.zero_add] at h1
    exact ⟨cs, h1, h2, h3, by rw [nthS_eq] at h1; exact (List.getElem?_eq_some_iff.1 h1).1⟩
  refine ⟨⟨?_, ?_, ?_, hr.hw.up, ?_, ?_⟩, ?_, hr.sz, hr.df, ?_⟩
  · intro c ty cells mu hc he
    obtain ⟨cs, q1, q2, q3, q4⟩ := hlt c ty cells mu he
    have h := hr.hw.hp (f c) ty cs mu q4 q1
    have hl : cs = [] → cells = [] := fun e => by
      have := congrArg List.length (q2 ρ)
      rw [e] at this
      simpa [dens] using this
    exact ⟨fun hh => by rw [h.heap hh, q2 ρ], q3, fun e => ⟨hl (h.dead e).1, (h.dead e).2⟩, fun e => hl (h.non e)⟩
  · intro c ty cells mu hc he
    obtain ⟨cs, q1, q2, q3, q4⟩ := hlt c ty cells mu he
    exact hr.hw.ho (f c) ty cs mu q4 q1
  · intro c d hc hd h1 h2 h3
    have g : ∀ x, x < enK.length → ∃ ty cells mu, zD enK x = some ⟨ty, cells, mu⟩ := fun x hx => ⟨_, _, _, by rw [nthS_eq]; exact List.getElem?_eq_getElem hx⟩
    obtain ⟨ty, cells, mu, p⟩ := g c hc
    obtain ⟨ty', cells', mu', p'⟩ := g d hd
    obtain ⟨cs, q1, q2, q3, q4⟩ := hlt c _ _ _ p
    obtain ⟨cs', r1, r2, r3, r4⟩ := hlt d _ _ _ p'
    rw [deadE_of p] at h1; rw [deadE_of p'] at h2
    exact hf c d hc hd (hr.hw.inj (f c) (f d) q4 r4 ((deadE_of q1).2 h1) ((deadE_of r1).2 h2) h3)
  · intro c ty cells hc he
    obtain ⟨cs, q1, q2, q3, q4⟩ := hlt c ty cells true he
    exact hr.hw.mu (f c) ty cs q4 q1
  · intro c hc; show ρ (f c) = _; rw [hn0.1 c hc]; exact hr.hw.ini c hc
  · intro d v hd
    obtain ⟨h1, v', h2, h3⟩ := keepS_get hsl d v hd
    exact ⟨by rw [h3]; exact (hr.tm d v' h2).1, h1⟩
  · exact hn0.2
theorem Run_keepN {f : Nat → Nat} {enK : List EN} {slK : List (Nat × SV)} (hn0 : (∀ c, c < C.n0 → f c = c) ∧ C.n0 ≤ enK.length) (hf : ∀ c d, c < enK.length → d < enK.length → f c = f d → c = d)
    (hen : keepE f enK.length en 0 enK) (hsl : keepS f enK.length sl slK) (h : Run C k nt slK enK) : Run C k nt sl en :=
  fun ρ a w hr => h _ a w (hr.keep hn0 hf hen hsl)
theorem Run_loopD {ι : Type} {c : Code} {k : List KI} (slF : ι → List (Nat × SV)) (enF : ι → List EN) (μ : ι → Nat) (x0 : ι) (h0 : sub (slF x0) sl) (he0 : enF x0 = en)
    (round : ∀ (x : ι) (D : Cx), D.P = C.P → D.S = C.S → D.w0 = C.w0 → D.n0 = C.n0 → D.kp = C.kp → (∀ {P : Program} {fn : Func} {R : Ending → World → Prop}, Ctx C P fn R → Ctx D P fn R) →
      (∀ {id : Nat} {k' kk : List KI} {s : List (Nat × SV)} {e : List EN}, zH id kk = none → zH id k = some k' → Run C k' nt s e → Run D (.code (.exit id) :: kk) nt s e) →
      (∀ y s, μ y < μ x → sub (slF y) s → Run D [] nt s (enF y)) → Run D [.code c] nt (slF x) (enF x)) : Run C (.code (.loop c) :: k) nt sl en :=
  Run_loop slF enF μ x0 h0 he0 fun x J hJ => round x (lpC C k J) rfl rfl rfl rfl rfl (fun h => h.lp k J) (fun h1 h2 h3 => Run_lpExit h1 h2 h3) hJ
variable {dst : Option Nat} {op : Op} {ty : TypeId} {pos : String} {af : Array Edge} {all r : List Oper} {gd : Option (Nat × Bool)}
def gdT (all : List Oper) (sl : List (Nat × SV)) : Option (Nat × Bool) → Bool
  | none => true
  | some (j, b) => match zD all j with
    | some ⟨some d, _, _, _, _, _⟩ => match qy sl d with
      | some (.c (.b x)) => x == b
      | _ => false
    | _ => false
theorem Run_softG (v : SV) (hg : gdT all sl gd = true) (hx : ∀ ρ a w, Rep C ρ nt sl en a w → (execOp a.eval ⟨dst, op, ty, pos, af, gd⟩).run C.P w = .ok (.value (v.den ρ)) w ∧ v.wf (· < en.length)) (hd : ∀ d, dst = some d → d < nt) (hK : Run C (.ops all r :: k) nt (jN dst v sl) en) :
    Run C (.ops all (⟨dst, op, ty, pos, af, gd⟩ :: r) :: k) nt sl en := by
  intro ρ a w hr
  obtain ⟨h1, h2⟩ := hx ρ a w hr
  have hwant : Region.wanted ⟨dst, op, ty, pos, af, gd⟩ (yielded all.toArray a.tmps) = true := by
    cases gd with
    | none => simp [Region.wanted]
    | some jb =>
      obtain ⟨j, b⟩ := jb
      simp only [gdT] at hg
      split at hg <;> try cases hg
      rename_i d _ _ _ _ _ hj
      split at hg <;> try cases hg
      rename_i x hx
      have e1 := (hr.tm d _ hx).1
      rw [nthS_eq] at hj
      have hxb : x = b := by simpa using hg
      subst hxb
      simp [Region.wanted, yielded, hj, e1, SV.den, SC.den]
  rw [KQ_ops]
  unfold wpList
  rw [if_pos hwant]
  left
  unfold Oper.wp
  rw [h1]
  simp only [Oper.upon]
  refine hK ρ _ w ?_
  cases dst with
  | none => exact hr
  | some d => exact hr.put (hd d rfl) h2
end
end Go.Proofs.YtehfcboiimdkbaaGreatDoor
/- A walk: a slice of nothing seen as a row of nothing; structs compared; what lies at raw places. -/
namespace Go.Proofs.YtehfcboiimdkbaaGreatDoor
set_option linter.unusedSimpArgs false
set_option linter.unusedVariables false
open Go.RowKit
section
variable {C : Cx} {nt : Nat} {sl : List (Nat × SV)} {en : List EN} {k : List KI}
def relE (N : Nat) : List EN → List EN → Prop
  | [], [] => True
  | e :: l, e' :: l' => (e.ty = e'.ty ∧ e.mu = e'.mu ∧ (∀ ρ : Nat → RE, (ρ N).nl = some none → dens ρ e'.cells = dens ρ e.cells) ∧ wfs (· < N + 1) e'.cells) ∧ relE N l l'
  | _, _ => False
theorem relE_len {N : Nat} : ∀ {l l' : List EN}, relE N l l' → l.length = l'.length
  | [], [], _ => rfl
  | _ :: l, _ :: l', h => by simp [relE_len h.2]
  | [], _ :: _, h => h.elim
  | _ :: _, [], h => h.elim
theorem relE_get {N : Nat} : ∀ {l l' : List EN}, relE N l l' → ∀ c e', zD l' c = some e' → ∃ e, zD l c = some e ∧ e.ty = e'.ty ∧ e.mu = e'.mu ∧ (∀ ρ : Nat → RE, (ρ N).nl = some none → dens ρ e'.cells = dens ρ e.cells) ∧ wfs (· < N + 1) e'.cells
  | [], [], _, c, e', h => by simp [zD] at h
  | e :: l, e' :: l', h, 0, x, hx => by
    simp only [zD, Option.some.injEq] at hx; subst hx
    exact ⟨e, rfl, h.1.1, h.1.2.1, h.1.2.2.1, h.1.2.2.2⟩
  | e :: l, e' :: l', h, c + 1, x, hx => by
    simp only [zD] at hx ⊢
    exact relE_get h.2 c x hx
  | [], _ :: _, h, _, _, _ => h.elim
  | _ :: _, [], h, _, _, _ => h.elim
def relS (N : Nat) (sl : List (Nat × SV)) : List (Nat × SV) → Prop
  | [] => True
  | (d, v') :: r => ((∃ v, qy sl d = some v ∧ ∀ ρ : Nat → RE, (ρ N).nl = some none → v'.den ρ = v.den ρ) ∧ v'.wf (· < N + 1)) ∧ relS N sl r
theorem relS_get {N : Nat} {sl : List (Nat × SV)} : ∀ {s : List (Nat × SV)}, relS N sl s → ∀ d v', qy s d = some v' → (∃ v, qy sl d = some v ∧ ∀ ρ : Nat → RE, (ρ N).nl = some none → v'.den ρ = v.den ρ) ∧ v'.wf (· < N + 1)
  | [], _, d, v, h => by simp [qy] at h
  | (e, u) :: s, hs, d, v, h => by
    simp only [qy] at h
    split at h
    · rename_i e'; subst e'; simp only [Option.some.injEq] at h; subst h; exact hs.1
    · exact relS_get hs.2 d v h
theorem Run_nilrowG (mu : Bool) {en' : List EN} {sl' : List (Nat × SV)} (ty : TypeId × Nat × (RE → Prop)) (h0 : ty.2.1 = 0) (hI : ∀ b, ty.2.2 ⟨b, [], [], 0, some none⟩) (hmu : mu = true → ty.1 ≠ DEAD) (hen : relE (zG en) en en') (hsl : relS (zG en) sl sl')
    (h : Run C k nt sl' (zF en' ⟨ty, [], mu⟩)) : Run C k nt sl en := by
  rw [lenN_eq] at hen hsl
  intro ρ a w hr
  have hlen := relE_len hen
  obtain ⟨N, hN⟩ : ∃ N, N = en.length := ⟨_, rfl⟩
  rw [← hN] at hen hsl
  obtain ⟨r0, hr0⟩ : ∃ r0 : RE, r0 = ⟨C.w0.heap.size, [], [], 0, some none⟩ := ⟨_, rfl⟩
  obtain ⟨ρ', hρ'⟩ : ∃ ρ' : Nat → RE, ρ' = fun c => if c = N then r0 else ρ c := ⟨_, rfl⟩
  have hnew : ρ' N = r0 := by rw [hρ']; exact if_pos rfl
  have hold : ∀ c, c ≠ N → ρ' c = ρ c := fun c hc => by rw [hρ']; exact if_neg hc
  have hnl : (ρ' N).nl = some none := by rw [hnew, hr0]
  have hle : (zF en' ⟨ty, [], mu⟩).length = N + 1 := by rw [snoc_eq]; simp [← hlen, hN]
  have hlt : ∀ {c : Nat}, c < N → c ≠ N := fun h => Nat.ne_of_lt h
  have hcase : ∀ c e, zD (zF en' ⟨ty, [], mu⟩) c = some e → (c = N ∧ e = ⟨ty, [], mu⟩) ∨ (c < N ∧ zD en' c = some e) := by
    intro c e hc
    rw [nthS_eq, snoc_eq] at hc
    rcases Nat.lt_trichotomy c N with h1 | h1 | h1
    · rw [List.getElem?_append_left (by omega)] at hc
      exact .inr ⟨h1, by rw [nthS_eq]; exact hc⟩
    · rw [List.getElem?_append_right (by omega), show c - en'.length = 0 by omega] at hc
      simp at hc
      exact .inl ⟨h1, hc.symm⟩
    · rw [List.getElem?_append_right (by omega), List.getElem?_eq_none (by simp; omega)] at hc
      cases hc
  have hlive : ∀ c, c < N → deadE (ρ' c) (zD (zF en' ⟨ty, [], mu⟩) c) = false → deadE (ρ c) (zD en c) = false := by
    intro c hc hd
    cases hx : zD (zF en' ⟨ty, [], mu⟩) c with
    | none => rw [hx] at hd; cases hd
    | some e =>
      rcases hcase c e hx with ⟨h1, _⟩ | ⟨_, h1⟩
      · exact absurd h1 (hlt hc)
      · obtain ⟨e0, q1, q2, _⟩ := relE_get hen c e h1
        obtain ⟨t0, c0, m0⟩ := e0
        obtain ⟨t1, c1, m1⟩ := e
        have := (deadE_of hx).1 hd
        simp only at q2
        rw [hold c (hlt hc)] at this
        exact (deadE_of q1).2 ⟨by rw [q2]; exact this.1, this.2⟩
  refine h ρ' a w ⟨⟨?_, ?_, ?_, hr.hw.up, ?_, ?_⟩, ?_, hr.sz, hr.df, by rw [hle]; have := hr.n0; omega⟩
  · intro c t cells mu' hc he
    rw [hle] at hc ⊢
    rcases hcase c _ he with ⟨rfl, h1⟩ | ⟨h1, h2⟩
    · cases h1
      exact ⟨fun hh => absurd hh.2 (by rw [hnl]; simp), (fun y hy => nomatch hy), (fun hd => ⟨rfl, by cases hm : mu with | false => rfl | true => exact absurd hd (hmu hm)⟩), (fun _ => rfl)⟩
    · obtain ⟨⟨t0, c0, m0⟩, q1, q2, q3, q4, q5⟩ := relE_get hen c _ h2
      simp only at q2 q3 q4 q5
      subst q2; subst q3
      have hh := hr.hw.hp c t0 c0 m0 (by show c < en.length; omega) q1
      have hd : dens ρ' cells = dens ρ c0 := by
        rw [q4 ρ' hnl]
        exact dens_congr (pr := (· < en.length)) hh.wf (fun q hq => hold q (hlt (by show q < N; rw [hN]; exact hq)))
      rw [show (⟨(t0 : TypeId × Nat × (RE → Prop)), cells, m0⟩ : EN) = ⟨t0, cells, m0⟩ from rfl] at he
      refine ⟨fun hl => ?_, q5, fun hd' => ?_, fun hn => ?_⟩
      · rw [hold c (hlt h1)] at hl ⊢; rw [hd]; exact hh.heap hl
      · have := hh.dead hd'
        have e1 : dens ρ' cells = [] := by rw [hd, this.1]; rfl
        refine ⟨by simpa [dens] using e1, this.2⟩
      · rw [hold c (hlt h1)] at hn
        have e1 : dens ρ' cells = [] := by rw [hd, hh.non hn]; rfl
        simpa [dens] using e1
  · intro c t cells mu' hc he
    rw [hle] at hc
    rcases hcase c _ he with ⟨rfl, h1⟩ | ⟨h1, h2⟩
    · cases h1; rw [hnew, hr0]; exact ⟨h0.symm, hI _⟩
    · obtain ⟨⟨t0, c0, m0⟩, q1, q2, q3, _⟩ := relE_get hen c _ h2
      simp only at q2; subst q2
      rw [hold c (hlt h1)]
      exact hr.hw.ho c t0 c0 m0 (by show c < en.length; omega) q1
  · intro c d hc hd h1 h2 h3
    rw [hle] at hc hd
    have nn : ∀ q, q < N + 1 → deadE (ρ' q) (zD (zF en' ⟨ty, [], mu⟩) q) = false → q < N := by
      intro q hq hdq
      rcases Nat.lt_or_ge q N with h | h
      · exact h
      · obtain rfl : q = N := by omega
        have hx : zD (zF en' ⟨ty, [], mu⟩) q = some ⟨ty, [], mu⟩ := by
          rw [nthS_eq, snoc_eq, List.getElem?_append_right (by omega), show q - en'.length = 0 by omega]; rfl
        have := (deadE_of hx).1 hdq
        rw [hnl] at this; cases this.2
    have c1 := nn c hc h1
    have d1 := nn d hd h2
    rw [hold c (hlt c1), hold d (hlt d1)] at h3
    exact hr.hw.inj c d (by show c < en.length; omega) (by show d < en.length; omega) (hlive c c1 h1) (hlive d d1 h2) h3
  · intro c t cells hc he
    rw [hle] at hc
    rcases hcase c _ he with ⟨rfl, h1⟩ | ⟨h1, h2⟩
    · rw [hnew, hr0]; exact .inr (Nat.le_refl _)
    · obtain ⟨⟨t0, c0, m0⟩, q1, q2, q3, _⟩ := relE_get hen c _ h2
      simp only at q2 q3; subst q2; subst q3
      rw [hold c (hlt h1)]
      exact hr.hw.mu c t0 c0 (by show c < en.length; omega) q1
  · intro c hc
    have := hr.n0
    rw [hold c (by omega)]; exact hr.hw.ini c hc
  · intro d v' hd
    obtain ⟨⟨v, q1, q2⟩, q3⟩ := relS_get hsl d v' hd
    obtain ⟨t1, t2⟩ := hr.tm d v q1
    rw [hle]
    refine ⟨?_, q3⟩
    rw [q2 ρ' hnl, SV.den_congr t2 (fun q hq => hold q (hlt (by show q < N; rw [hN]; exact hq)))]
    exact t1
end
def subL (sl : List (Nat × SV)) : List (Nat × SV) → Prop
  | [] => True
  | (d, v) :: r => qy sl d = some v ∧ subL sl r
theorem sub_mk {sl : List (Nat × SV)} : ∀ {s : List (Nat × SV)}, subL sl s → sub s sl
  | [], _ => fun d v h => by simp [qy] at h
  | (e, u) :: r, hs => fun d v h => by
    simp only [qy] at h
    split at h
    · rename_i e'; subst e'; rw [← h]; exact hs.1
    · exact sub_mk hs.2 d v h
section
variable {C : Cx} {nt : Nat} {sl : List (Nat × SV)} {en : List EN} {k : List KI}
variable {dst : Option Nat} {op : Op} {ty : TypeId} {pos : String} {af : Array Edge} {all r : List Oper} {gd : Option (Nat × Bool)}
theorem rd_arg {W : World} {b o n : Nat} {vs : List Value} (hS : C.S = Non) (hw : C.w0 = W) (hb : b < W.heap.size) (h : ∀ (j : Nat) v, vs[j]? = some v → W.cell? ⟨b, o + j, none⟩ = some v) (hn : vs.length = n) : C.rd b o n = some (vs.map qz) := by
  refine rd_of ?_ hn
  rw [hS, hw]
  intro w hu j v hv
  rw [← h j v hv]
  unfold World.cell?
  rw [hu.to_below.block b hb]
end
end Go.Proofs.YtehfcboiimdkbaaGreatDoor
/- A walk through decided branches, which stops at open ones; lean where many guards stand in a row. -/
namespace Go.Proofs.YtehfcboiimdkbaaGreatDoor
set_option linter.unusedSimpArgs false
set_option linter.unusedVariables false
open Go.RowKit
def VT (C : Cx) (ctr : Ctr) (rs : List ResultVar) : Bool → Nat → List KI → Nat → List (Nat × SV) → List EN → Prop
  | false, _, k, nt, sl, en => Run C k nt sl en
  | true, 0, k, nt, sl, en => Run C k nt sl en
  | true, _ + 1, [], nt, sl, en => Run C [] nt sl en
  | true, n + 1, .blk _ :: k, nt, sl, en => VT C ctr rs true n k nt sl en
  | true, n + 1, .ops _ [] :: k, nt, sl, en => VT C ctr rs true n k nt (zJ C.kp sl) en
  | true, n + 1, .ops all (⟨dst, op, ty, pos, af, none⟩ :: r) :: k, nt, sl, en =>
    qH C.P C.rd ctr nt (VT C ctr rs true n (.ops all r :: k) nt) (Run C (.ops all (⟨dst, op, ty, pos, af, none⟩ :: r) :: k) nt sl en) dst sl en op
  | true, n + 1, .ops all (⟨dst, op, ty, pos, af, some (j, b)⟩ :: r) :: k, nt, sl, en =>
    match zD all j with
    | some ⟨some d, _, _, _, _, _⟩ => match qy sl d with
      | some (.c (.b x)) => match x, b with
        | true, true => opG (x || !x) C.P C.rd ctr nt (VT C ctr rs (x || !x) n (.ops all r :: k) nt) (Run C (.ops all (⟨dst, op, ty, pos, af, some (j, b)⟩ :: r) :: k) nt sl en) dst sl en op
        | false, false => opG (x || !x) C.P C.rd ctr nt (VT C ctr rs (x || !x) n (.ops all r :: k) nt) (Run C (.ops all (⟨dst, op, ty, pos, af, some (j, b)⟩ :: r) :: k) nt sl en) dst sl en op
        | true, false => putG (x || !x) nt (VT C ctr rs (x || !x) n (.ops all r :: k) nt) (Run C (.ops all (⟨dst, op, ty, pos, af, some (j, b)⟩ :: r) :: k) nt sl en) dst (.c .u) sl en
        | false, true => putG (x || !x) nt (VT C ctr rs (x || !x) n (.ops all r :: k) nt) (Run C (.ops all (⟨dst, op, ty, pos, af, some (j, b)⟩ :: r) :: k) nt sl en) dst (.c .u) sl en
      | some (.c .u) => qI nt (VT C ctr rs true n (.ops all r :: k) nt) (Run C (.ops all (⟨dst, op, ty, pos, af, some (j, b)⟩ :: r) :: k) nt sl en) dst (.c .u) sl en
      | _ => Run C (.ops all (⟨dst, op, ty, pos, af, some (j, b)⟩ :: r) :: k) nt sl en
    | _ => Run C (.ops all (⟨dst, op, ty, pos, af, some (j, b)⟩ :: r) :: k) nt sl en
  | true, n + 1, .code .skip :: k, nt, sl, en => VT C ctr rs true n k nt sl en
  | true, n + 1, .code (.seq a b) :: k, nt, sl, en => VT C ctr rs true n (.code a :: .code b :: k) nt sl en
  | true, n + 1, .code (.block id c) :: k, nt, sl, en => VT C ctr rs true n (.code c :: .blk id :: k) nt sl en
  | true, n + 1, .code (.exit id) :: k, nt, sl, en => match zH id k with
    | some k' => VT C ctr rs true n k' nt sl en
    | none => Run C (.code (.exit id) :: k) nt sl en
  | true, n + 1, .code (.cond c a b) :: k, nt, sl, en => match ev sl c with
    | some (.c (.b x)) => match x with
      | true => VT C ctr rs (x || !x) n (.code a :: k) nt sl en
      | false => VT C ctr rs (x || !x) n (.code b :: k) nt sl en
    | _ => Run C (.code (.cond c a b) :: k) nt sl en
  | true, n + 1, .code (.region _ ops false) :: k, nt, sl, en => VT C ctr rs true n (.ops ops.toList ops.toList :: k) nt sl en
  | true, _ + 1, .code .ret :: k, nt, sl, en => match qE C.P sl en rs with
    | some l => Fin C rs (qG l) en
    | none => Run C (.code .ret :: k) nt sl en
  | true, _ + 1, k, nt, sl, en => Run C k nt sl en
section
variable {C : Cx} {ρ : Nat → RE} {nt : Nat} {sl : List (Nat × SV)} {en : List EN} {a : Act} {w : World}
variable {K : Act → World → Prop} {Q : Exit → Act → World → Prop}
theorem VT_ok {ctr : Ctr} (hctr : CtrOk C ctr) {rs : List ResultVar} : ∀ (go : Bool) (n : Nat) (k : List KI) (sl : List (Nat × SV)) (en : List EN), VT C ctr rs go n k nt sl en → Run C k nt sl en
  | false, _, k, sl, en, h => by simpa only [VT] using h
  | true, 0, k, sl, en, h => h
  | true, n + 1, [], sl, en, h => h
  | true, n + 1, .blk id :: k, sl, en, h => fun ρ a w hr => VT_ok hctr true n k sl en h ρ a w hr
  | true, n + 1, .ops all [] :: k, sl, en, h => fun ρ a w hr => VT_ok hctr true n k _ en h ρ a w (hr.trim _)
  | true, n + 1, .ops all (⟨dst, op, ty, pos, af, none⟩ :: r) :: k, sl, en, h => fun ρ a w hr => by
    rcases opK_ok hctr (o := ⟨dst, op, ty, pos, af, none⟩) (K := wpList C.P all.toArray (KQ C k) r) (Q := KQ C k) h hr (fun sl' en' ρ' a' w' hk hr' => VT_ok hctr true n _ sl' en' hk ρ' a' w' hr') with hst | hwp
    · exact hst ρ a w hr
    · rw [KQ_ops]
      unfold wpList
      rw [if_pos (by simp [Region.wanted])]
      exact .inl hwp
  | true, n + 1, .ops all (⟨dst, op, ty, pos, af, some (j, b)⟩ :: r) :: k, sl, en, h => fun ρ a w hr => by
    have skip : ∀ sl', Rep C ρ nt sl' en a w → Region.wanted ⟨dst, op, ty, pos, af, some (j, b)⟩ (yielded all.toArray a.tmps) = false →
        qI nt (VT C ctr rs true n (.ops all r :: k) nt) (Run C (.ops all (⟨dst, op, ty, pos, af, some (j, b)⟩ :: r) :: k) nt sl en) dst (.c .u) sl' en → KQ C (.ops all (⟨dst, op, ty, pos, af, some (j, b)⟩ :: r) :: k) .normal a w := by
      intro sl' hr' hw hp
      rcases putK_ok hp hr' (v := .c .u) trivial with hst | ⟨sl'', hk, hr''⟩
      · exact hst ρ a w hr
      · rw [KQ_ops]
        unfold wpList
        rw [if_neg (by rw [hw]; simp)]
        exact VT_ok hctr true n _ sl'' en hk ρ _ w hr''
    simp only [VT] at h
    split at h <;> try exact h ρ a w hr
    rename_i d _ _ _ _ _ hj
    rw [nthS_eq] at hj
    have hy : ∀ v, a.tmps[d]? = some v → yielded all.toArray a.tmps j = (match v with | .bool b => some b | _ => none) := by
      intro v hv
      simp only [yielded, List.getElem?_toArray, hj, Option.bind_some, hv]
      cases v <;> rfl
    split at h <;> try exact h ρ a w hr
    · rename_i x hx
      have h1 := (hr.tm d _ hx).1
      have h2 := hy _ h1
      have go : ∀ (hxb : x = b), qH C.P C.rd ctr nt (VT C ctr rs true n (.ops all r :: k) nt) (Run C (.ops all (⟨dst, op, ty, pos, af, some (j, b)⟩ :: r) :: k) nt sl en) dst sl en op → KQ C (.ops all (⟨dst, op, ty, pos, af, some (j, b)⟩ :: r) :: k) .normal a w := by
        intro hxb ha
        subst hxb
        rcases opK_ok hctr (o := ⟨dst, op, ty, pos, af, some (j, x)⟩) (K := wpList C.P all.toArray (KQ C k) r) (Q := KQ C k) ha hr (fun sl' en' ρ' a' w' hk hr' => VT_ok hctr true n _ sl' en' hk ρ' a' w' hr') with hst | hwp
        · exact hst ρ a w hr
        · rw [KQ_ops]
          unfold wpList
          rw [if_pos (by simp [Region.wanted, h2, SV.den, SC.den])]
          exact .inl hwp
      have no : ∀ (hxb : x ≠ b), qI nt (VT C ctr rs true n (.ops all r :: k) nt) (Run C (.ops all (⟨dst, op, ty, pos, af, some (j, b)⟩ :: r) :: k) nt sl en) dst (.c .u) sl en → KQ C (.ops all (⟨dst, op, ty, pos, af, some (j, b)⟩ :: r) :: k) .normal a w := by
        intro hxb hb
        refine skip _ hr ?_ hb
        simp [Region.wanted, h2, SV.den, SC.den]
        exact fun e => hxb e
      cases x <;> cases b <;> simp only [Bool.or_self, Bool.not_true, Bool.not_false, Bool.or_true, Bool.or_false, Bool.true_or, Bool.false_or, opG, putG] at h
      · exact go rfl h
      · exact no (by decide) h
      · exact no (by decide) h
      · exact go rfl h
    · rename_i hx
      have h1 := (hr.tm d _ hx).1
      have h2 := hy _ h1
      refine skip _ hr ?_ h
      simp [Region.wanted, h2, SV.den, SC.den, undef]
  | true, n + 1, .code .skip :: k, sl, en, h => fun ρ a w hr => wp_skip (VT_ok hctr true n k sl en h ρ a w hr)
  | true, n + 1, .code (.seq x y) :: k, sl, en, h => fun ρ a w hr => wp_seq (VT_ok hctr true n (.code x :: .code y :: k) sl en h ρ a w hr)
  | true, n + 1, .code (.block id c) :: k, sl, en, h => fun ρ a w hr => wp_block (VT_ok hctr true n (.code c :: .blk id :: k) sl en h ρ a w hr)
  | true, n + 1, .code (.exit id) :: k, sl, en, h => fun ρ a w hr => by
    simp only [VT] at h
    split at h
    · rename_i k' hk
      exact wp_exit (unw_ok hk a w (VT_ok hctr true n k' sl en h ρ a w hr))
    · exact h ρ a w hr
  | true, n + 1, .code (.cond c x y) :: k, sl, en, h => fun ρ a w hr => by
    simp only [VT] at h
    split at h <;> try exact h ρ a w hr
    rename_i t ht
    obtain ⟨e1, _⟩ := hr.ev_ok _ _ ht
    refine wp_cond (t := t) e1 ?_
    cases t with
    | true => exact VT_ok hctr true n (.code x :: k) sl en h ρ a w hr
    | false => exact VT_ok hctr true n (.code y :: k) sl en h ρ a w hr
  | true, n + 1, .code (.region id ops draw) :: k, sl, en, h => fun ρ a w hr => by
    cases draw with
    | true => exact h ρ a w hr
    | false => exact wp_region_list (VT_ok hctr true n (.ops ops.toList ops.toList :: k) sl en h ρ a w hr)
  | true, n + 1, .code (.loop c) :: k, sl, en, h => h
  | true, n + 1, .code (.rangeFunc _ _ _ _) :: k, sl, en, h => h
  | true, n + 1, .code (.scope _) :: k, sl, en, h => h
  | true, n + 1, .code (.label _) :: k, sl, en, h => h
  | true, n + 1, .code (.goto _) :: k, sl, en, h => h
  | true, n + 1, .code .ret :: k, sl, en, h => fun ρ a w hr => by
    simp only [VT] at h
    split at h
    · rename_i l hl
      refine wp_ret (KQ_ret k a w (h ρ a w hr.hw hr.n0 ?_ hr.df fun fn hfn => ?_))
      · exact resV_wf (hr.res _ _ hl).2
      · subst hfn; exact (hr.resOk hl).1
    · exact h ρ a w hr
  | true, n + 1, .code (.refuse _) :: k, sl, en, h => h
theorem jf (b : Bool) : (true || b) = true := rfl
theorem jg (b : Bool) : (false || b) = b := rfl
end
end Go.Proofs.YtehfcboiimdkbaaGreatDoor
/- Rows as entries: entries behind a step that makes one; append. -/
namespace Go.Proofs.YtehfcboiimdkbaaGreatDoor
set_option linter.unusedSimpArgs false
set_option linter.unusedVariables false
open Go.RowKit
theorem nth_snoc {en : List EN} {e : EN} : zD (zF en e) (zG en) = some e := by rw [nthS_eq, snoc_eq, lenN_eq]; simp
theorem nth_snoc_ne {en : List EN} {e : EN} {q : Nat} (h : q ≠ zG en) : zD (zF en e) q = zD en q := by
  rw [nthS_eq, nthS_eq, snoc_eq]
  rw [lenN_eq] at h
  rcases Nat.lt_or_ge q en.length with hl | hl
  · rw [List.getElem?_append_left hl]
  · rw [List.getElem?_eq_none hl, List.getElem?_eq_none (by simp; omega)]
theorem nth_lt {en : List EN} {e : EN} {q : Nat} (h : zD en q = some e) : q < zG en := by rw [nthS_eq] at h; rw [lenN_eq]; exact (List.getElem?_eq_some_iff.1 h).1
theorem nth_set {en : List EN} {e x : EN} {q : Nat} (h : zD en q = some e) : zD (zE en q x) q = some x := by
  rw [nthS_eq] at h
  rw [nthS_eq, setN_eq, List.getElem?_set_self (List.getElem?_eq_some_iff.1 h).1]
theorem nth_set_ne {en : List EN} {x : EN} {q d : Nat} (h : q ≠ d) : zD (zE en d x) q = zD en q := by
  rw [nthS_eq, nthS_eq, setN_eq, List.getElem?_set_ne (fun e => h e.symm)]
theorem len_set {en : List EN} {x : EN} {d : Nat} : zG (zE en d x) = zG en := by rw [lenN_eq, lenN_eq, setN_eq]; simp
theorem len_snoc {en : List EN} {x : EN} : zG (zF en x) = zG en + 1 := by rw [lenN_eq, lenN_eq, snoc_eq]; simp
theorem mk_new {n : Nat} {en : List EN} (h : zG en = n + 1) (q : Nat) : (n ≤ q ∧ q < zG en) ↔ q = n := by rw [h]; omega
def deadOf (e : EN) : EN := ⟨(DEAD, e.ty.2.1, e.ty.2.2), [], false⟩
theorem Hw.rebuild {C : Cx} {ρ : Nat → RE} {pr : Nat → Prop} {en en' : List EN} {w w' : World} {N : Nat} {e : EN} {T : Nat → Prop} (r : RE) (hw : Hw C ρ pr en w) (lN : ¬ pr N) (hn1 : C.n0 ≤ N) (hU : Upd T w w') (hT : ∀ k, k < C.w0.heap.size → T k → C.S k)
    (hold : ∀ q, pr q →
      (zD en' q = zD en q ∧ (deadE (ρ q) (zD en q) = false → ¬ T (ρ q).blk)) ∨
      (∃ e, zD en q = some e ∧ zD en' q = some (deadOf e)) ∨
      (∃ ty cells cells' mu, zD en q = some ⟨ty, cells, mu⟩ ∧ zD en' q = some ⟨ty, cells', mu⟩ ∧ ty.1 ≠ DEAD ∧ HE (updR ρ N r) (fun q => pr q ∨ q = N) w' q ty cells' mu))
    (hN : zD en' N = some e) (hE : HE (updR ρ N r) (fun q => pr q ∨ q = N) w' N e.ty e.cells e.mu) (hO : r.pre.length = e.ty.2.1 ∧ e.ty.2.2 r)
    (hne : r.nl = none → ∀ q, pr q → deadE (ρ q) (zD en' q) = false → (ρ q).blk ≠ r.blk) (hmu : e.mu = true → C.S r.blk ∨ C.w0.heap.size ≤ r.blk) :
    (∀ q, pr q → updR ρ N r q = ρ q) ∧ Hw C (updR ρ N r) (fun q => pr q ∨ q = N) en' w' := by
  have ho : ∀ q, pr q → updR ρ N r q = ρ q := fun q hq => if_neg (fun h : q = N => lN (h ▸ hq))
  have hn : updR ρ N r N = r := if_pos rfl
  have hlive : ∀ q, pr q → deadE (ρ q) (zD en' q) = false → deadE (ρ q) (zD en q) = false := by
    intro q hq hl
    rcases hold q hq with ⟨h1, _⟩ | ⟨e, h1, h2⟩ | ⟨ty, cells, cells', mu, h1, h2, h3, _⟩
    · rw [← h1]; exact hl
    · rw [h2] at hl; exact absurd hl (by simp [deadOf, deadE])
    · exact (deadE_of h1).2 ⟨h3, ((deadE_of h2).1 hl).2⟩
  refine ⟨ho, ?_, ?_, ?_, hw.up.trans hU hT, ?_, ?_⟩
  · intro q ty cells mu hq hqe
    by_cases hqN : q = N
    · subst hqN
      rw [hN] at hqe
      cases e
      simp only [Option.some.injEq, EN.mk.injEq] at hqe
      obtain ⟨rfl, rfl, rfl⟩ := hqe
      exact hE
    have hq' := hq.resolve_right hqN
    rcases hold q hq' with ⟨h1, h2⟩ | ⟨e', h1, h2⟩ | ⟨ty', cells0, cells', mu', h1, h2, h3, h4⟩
    · rw [h1] at hqe
      have hp := hw.hp q ty cells mu hq' hqe
      refine ⟨fun hl => ?_, wfs_mono hp.wf (fun _ h => Or.inl h), hp.dead, by rw [ho q hq']; exact hp.non⟩
      rw [ho q hq'] at hl
      have hlv : deadE (ρ q) (zD en q) = false := (deadE_of hqe).2 hl
      rw [ho q hq', dens_congr hp.wf ho, hU.block _ (hw.lt hq' hlv) (h2 hlv)]
      exact hp.heap hl
    · rw [h2] at hqe
      simp only [Option.some.injEq, deadOf, EN.mk.injEq] at hqe
      obtain ⟨rfl, rfl, rfl⟩ := hqe
      exact ⟨fun hl => absurd rfl hl.1, (fun y hy => nomatch hy), fun _ => ⟨rfl, rfl⟩, fun _ => rfl⟩
    · rw [h2] at hqe
      simp only [Option.some.injEq, EN.mk.injEq] at hqe
      obtain ⟨rfl, rfl, rfl⟩ := hqe
      exact h4
  · intro q ty cells mu hq hqe
    by_cases hqN : q = N
    · subst hqN
      rw [hN] at hqe
      cases e
      simp only [Option.some.injEq, EN.mk.injEq] at hqe
      obtain ⟨rfl, rfl, rfl⟩ := hqe
      rw [hn]; exact hO
    have hq' := hq.resolve_right hqN
    rw [ho q hq']
    rcases hold q hq' with ⟨h1, h2⟩ | ⟨e', h1, h2⟩ | ⟨ty', cells0, cells', mu', h1, h2, h3, h4⟩
    · rw [h1] at hqe; exact hw.ho q ty cells mu hq' hqe
    · rw [h2] at hqe
      cases e'
      simp only [Option.some.injEq, deadOf, EN.mk.injEq] at hqe
      obtain ⟨rfl, rfl, rfl⟩ := hqe
      have h3 := hw.ho q _ _ _ hq' h1
      exact h3
    · rw [h2] at hqe
      simp only [Option.some.injEq, EN.mk.injEq] at hqe
      obtain ⟨rfl, rfl, rfl⟩ := hqe
      exact hw.ho q _ _ _ hq' h1
  · intro q d hq hd hql hdl hb
    rcases hq with hq | rfl <;> rcases hd with hd | rfl
    · rw [ho q hq, ho d hd] at hb
      rw [ho q hq] at hql
      rw [ho d hd] at hdl
      exact hw.inj q d hq hd (hlive q hq hql) (hlive d hd hdl) hb
    · rw [ho q hq, hn] at hb
      rw [ho q hq] at hql
      rw [hn] at hdl
      exact absurd hb (hne ((deadE_of hN).1 hdl).2 q hq hql)
    · rw [ho d hd, hn] at hb
      rw [ho d hd] at hdl
      rw [hn] at hql
      exact absurd hb.symm (hne ((deadE_of hN).1 hql).2 d hd hdl)
    · rfl
  · intro q ty cells hq hqe
    by_cases hqN : q = N
    · subst hqN
      rw [hN] at hqe
      cases e
      simp only [Option.some.injEq, EN.mk.injEq] at hqe
      obtain ⟨rfl, rfl, rfl⟩ := hqe
      rw [hn]; exact hmu rfl
    have hq' := hq.resolve_right hqN
    rw [ho q hq']
    rcases hold q hq' with ⟨h1, h2⟩ | ⟨e', h1, h2⟩ | ⟨ty', cells0, cells', mu', h1, h2, h3, h4⟩
    · rw [h1] at hqe; exact hw.mu q ty cells hq' hqe
    · rw [h2] at hqe
      simp only [Option.some.injEq, deadOf, EN.mk.injEq] at hqe
      exact absurd hqe.2.2 (by decide)
    · rw [h2] at hqe
      simp only [Option.some.injEq, EN.mk.injEq] at hqe
      obtain ⟨rfl, rfl, rfl⟩ := hqe
      exact hw.mu q _ _ hq' h1
  · intro q hq
    rw [show updR ρ N r q = ρ q from if_neg (by omega)]
    exact hw.ini q hq
section
variable {C : Cx} {nt : Nat} {sl : List (Nat × SV)} {en : List EN} {k : List KI}
variable {dst : Option Nat} {op : Op} {ty : TypeId} {pos : String} {af : Array Edge} {all r : List Oper} {gd : Option (Nat × Bool)}
theorem gd_wanted {a : Act} {ρ : Nat → RE} {w : World} (hr : Rep C ρ nt sl en a w) (hg : gdT all sl gd = true) : Region.wanted ⟨dst, op, ty, pos, af, gd⟩ (yielded all.toArray a.tmps) = true := by
  cases gd with
  | none => simp [Region.wanted]
  | some jb =>
    obtain ⟨j, b⟩ := jb
    simp only [gdT] at hg
    split at hg <;> try cases hg
    rename_i d _ _ _ _ _ hj
    split at hg <;> try cases hg
    rename_i x hx
    have e1 := (hr.tm d _ hx).1
    rw [nthS_eq] at hj
    have hxb : x = b := by simpa using hg
    subst hxb
    simp [Region.wanted, yielded, hj, e1, SV.den, SC.den]
theorem Run_hop (v : SV) (en' : List EN) (hg : gdT all sl gd = true) (hn : en.length ≤ en'.length)
    (H : ∀ ρ a w, Rep C ρ nt sl en a w → ∃ ρ' w', (execOp a.eval ⟨dst, op, ty, pos, af, gd⟩).run C.P w = .ok (.value (v.den ρ')) w' ∧ (∀ c, c < en.length → ρ' c = ρ c) ∧ v.wf (· < en'.length) ∧ Hw C ρ' (· < en'.length) en' w')
    (hd : ∀ d, dst = some d → d < nt) (hK : Run C (.ops all r :: k) nt (jN dst v sl) en') : Run C (.ops all (⟨dst, op, ty, pos, af, gd⟩ :: r) :: k) nt sl en := by
  intro ρ a w hr
  obtain ⟨ρ', w', h1, h2, h3, h4⟩ := H ρ a w hr
  rw [KQ_ops]
  unfold wpList
  rw [if_pos (gd_wanted hr hg)]
  left
  unfold Oper.wp
  rw [h1]
  simp only [Oper.upon]
  have hr1 : Rep C ρ' nt sl en' a w' := by
    refine ⟨h4, fun d u hd => ?_, hr.sz, hr.df, by have := hr.n0; omega⟩
    obtain ⟨q1, q2⟩ := hr.tm d u hd
    rw [SV.den_congr q2 h2]
    exact ⟨q1, SV.wf_mono q2 (fun c hc => by show c < _; have : c < en.length := hc; omega)⟩
  refine hK ρ' _ w' ?_
  cases dst with
  | none => exact hr1
  | some d => exact hr1.put (hd d rfl) h3
theorem run_append0 {P : Program} (w : World) {t ty e : TypeId} {i : TypeInfo} (ht : P.underlying t = some (.slice e)) (hi : P.info? e = some i) (A B : Option Addr) (n c k : Nat) (hn : n ≤ c) :
    (Builtin.append_ #[t, t] ty #[.slice A n c, .slice B 0 k]).run P w = .ok (.slice A n c) w := by
  have hf : (Builtin.firstCells i.size 0 (.slice B 0 k)).run P w = .ok #[] w := by
    cases B with
    | none => simp [run_firstCells_none]
    | some b => exact run_firstCells_some (P := P) w i.size 0 b 0 k [] (by simp) (by simp)
  cases A <;> simp [Builtin.append_, run_underlying ht, sizeOf, typeInfo, hi, Builtin.lenOf, hn, hf, storeCells]
def rowP (z n L : Nat) : RE → Prop := fun r => L = n * z ∧ ((r.nl = none ∧ r.pre = [] ∧ L + r.post.length = r.cap * z ∧ n ≤ r.cap ∧ r.cap ≤ maxLen) ∨ (r.nl = some none ∧ n = 0 ∧ r.pre = []))
def rwE (e z n : Nat) (cells : List SC) : EN := ⟨(e, 0, rowP z n cells.length), cells, true⟩
def SrcOk (C : Cx) (en : List EN) (Y : SC) (m : Nat) (news : List SC) : Prop := ∀ ρ pr w, Hw C ρ pr en w → Y.wf pr → ∃ a cp, Y.den ρ = .slice (some a) m cp ∧ ∀ (j : Nat) u, (dens ρ news)[j]? = some u → w.cell? (a.add j) = some u
theorem src_sl {c o m cp L : Nat} {ty : TypeId × Nat × (RE → Prop)} {cells news : List SC} {mu : Bool} (hc : zD en c = some ⟨ty, cells, mu⟩) (ht : zB o L cells = some news) : SrcOk C en (.sl c o m cp) m news := by
  intro ρ pr w hw hwf
  refine ⟨_, cp, rfl, fun j u hu => ?_⟩
  obtain ⟨h1, h2⟩ := takeAt_some ht
  have hx : ∃ y, news[j]? = some y ∧ u = y.den ρ := by
    simp only [dens, List.getElem?_map, Option.map_eq_some_iff] at hu
    obtain ⟨y, hy, rfl⟩ := hu
    exact ⟨y, hy, rfl⟩
  obtain ⟨y, hy, rfl⟩ := hx
  have hjl : j < news.length := (List.getElem?_eq_some_iff.1 hy).1
  have hjL : j < L := by rw [h1, List.length_take] at hjl; omega
  rw [add_zero', Nat.add_assoc]
  refine hw.hp.cellAt hwf hc ?_
  rw [h1, List.getElem?_take, if_pos hjL, List.getElem?_drop] at hy
  exact hy
theorem src_raw {b o m cp L : Nat} {news : List SC} (hr : C.rd b o L = some news) : SrcOk C en (.v (.slice (some ⟨b, o, none⟩) m cp)) m news := by
  intro ρ pr w hw _
  obtain ⟨vs, h1, rfl, h3⟩ := rd_ok hw.up b o L news hr
  refine ⟨_, cp, rfl, fun j u hu => ?_⟩
  rw [add_zero']
  refine h3 j u ?_
  have e : dens ρ (vs.map qz) = vs := by
    unfold dens; rw [List.map_map]
    conv => rhs; rw [← List.map_id vs]
    exact List.map_congr_left fun z _ => ofVal_den ρ z
  rw [e] at hu; exact hu
theorem onesS_den {ρ : Nat → RE} {l : List SC} (h : qu l = true) : ∀ u ∈ dens ρ l, u.oneCell' = true := by
  intro u hu
  obtain ⟨x, hx, rfl⟩ := List.mem_map.1 hu
  exact one_of (onesS_mem h x hx)
inductive RowV (en : List EN) (e z n m : Nat) (cells : List SC) : SC → Option Nat → Prop
  | none : n = 0 → cells = [] → RowV en e z n m cells (.v (.slice .none 0 0)) .none
  | zero {d : Nat} : n = 0 → cells = [] → 0 < m → RowV en e z n m cells (.sl d 0 0 0) .none
  | some {d : Nat} : zD en d = .some (rwE e z n cells) → RowV en e z n m cells (.rw d n) (.some d)
  | lit {d : Nat} : cells.length = n * z → cells ≠ [] → n ≤ maxLen → zD en d = .some ⟨(e, 0, whole), cells, true⟩ → RowV en e z n m cells (.sl d 0 n n) (.some d)
def killE (en : List EN) : Option Nat → List EN
  | none => en
  | some d => match zD en d with
    | some e => zE en d (deadOf e)
    | none => en
theorem killE_len (en : List EN) (o : Option Nat) : (killE en o).length = en.length := by
  unfold killE
  split
  · rfl
  · split
    · exact setN_len _ _ _
    · rfl
theorem run_append_zero {P : Program} (w : World) {t ty e : TypeId} {i : TypeInfo} {zv : Value} {z bts : Nat} (ht : P.underlying t = some (.slice e)) (hi : P.info? e = some i) (hz : i.zero = some zv) (hs : i.size = z) (hb : i.bytes = bts) (hzs : zv.cells.size = z)
    (b a : Addr) (m c : Nat) (news : List Value) (hl : news.length = m * z) (hnews : ∀ (j : Nat) u, news[j]? = some u → w.cell? (a.add j) = some u) (hm : 0 < m) (h63 : m ≤ 100000000000) (hbts : m * bts ≤ 140737488355328) :
    ∃ v' w', (Builtin.append_ #[t, t] ty #[.slice (some b) 0 0, .slice (some a) m c]).run P w = .ok v' w' ∧ w'.ownsRow 0 e z v' (0 + m) news ∧ w.grownBy w' none ∧ v'.ownBlock = some w.heap.size := by
  subst hs; subst hb
  have hr := run_append_grow (P := P) w t ty e i zv ht hi hz b 0 0 [] (by simp) (fun j v h => by simp at h) a m c news hl hnews (by omega) (by omega) (by rw [Nat.zero_add, nextslicecap_zero hm]; omega)
  have hge := grownCap_ge w (0 + m) 0 e
  have hcm := grownCap_le_maxLen w (0 + m) 0 e (by unfold maxLen; omega)
  refine ⟨_, _, hr, ⟨by rw [hl, Nat.zero_add], .inr ⟨w.heap.size, _, _, rfl, Nat.zero_le _, heap_alloc_new w.drew _, hge, hcm, ?_, ?_⟩⟩, ⟨rfl, rfl, rfl, by simp, fun k hk _ => Go.heap_alloc_old w.drew _ hk⟩, rfl⟩
  · simp only [Array.size_append, List.size_toArray, List.length_nil, size_zeroCells, hzs, hl, Nat.zero_add] at hge ⊢
    rw [← Nat.add_mul]
    congr 1
    omega
  · simp only [Array.toList_append, List.nil_append]
    rw [List.take_left' (by rw [hl, Nat.zero_add])]
theorem append_core {N : Nat} {mk : Nat → Prop} {en en' : List EN} {e z n m : Nat} {X : SC} {cells news : List SC} {o : Option Nat} {ρ : Nat → RE} {pr : Nat → Prop} {w w' : World} {vb : Option Nat} {v' : Value}
    (he : e ≠ DEAD) (hX : RowV en e z n m cells X o) (hwn : ∀ pr, wfs pr news) (hn0 : C.n0 ≤ N) (hmk : ∀ q, mk q ↔ q = N)
    (hNe : zD en' N = some (rwE e z (n + m) (cells ++ news))) (hq : ∀ q, q ≠ N → zD en' q = zD (killE en o) q) (lN : ¬ pr N) (hw : Hw C ρ pr en w) (x2 : X.wf pr)
    (hblk : ∀ g, vb = some g → ∃ d iv, o = some d ∧ pr d ∧ zD en d = some ⟨(e, 0, iv), cells, true⟩ ∧ (ρ d).nl = none ∧ (ρ d).blk = g)
    (h2 : w'.ownsRow 0 e z v' (n + m) (dens ρ (cells ++ news))) (h3 : w.grownBy w' vb) (h5 : v'.ownBlock = vb ∨ v'.ownBlock = some w.heap.size) :
    ∃ ρ', (SV.c (SC.rw N (n + m))).den ρ' = v' ∧ (∀ q, pr q → ρ' q = ρ q) ∧ Hw C ρ' (fun q => pr q ∨ mk q) en' w' := by
  have ldX : ∀ d, X = .rw d n → pr d := fun d h => by rw [h] at x2; exact x2
  -- where the new row lies
  obtain ⟨rr, hr1, hr2, hr3, hr4⟩ : ∃ rr : RE, v' = rwOf rr (n + m) ∧ rowP z (n + m) (cells ++ news).length rr ∧ (rr.nl = none → v'.ownBlock = some rr.blk ∧ rr.pre = [] ∧ w'.heap[rr.blk]? = some (.cells (rr.pre ++ dens ρ (cells ++ news) ++ rr.post).toArray e (0, 0))) ∧ (rr.nl ≠ none → rr.blk = C.w0.heap.size) := by
    have hL : (cells ++ news).length = (n + m) * z := by have := h2.1; rwa [dens_len] at this
    rcases h2.2 with ⟨e1, e2⟩ | ⟨g, cap, cur, e1, _, e3, e4, e5, e6, e7⟩
    · exact ⟨⟨C.w0.heap.size, [], [], 0, some none⟩, by rw [e1, e2]; rfl, ⟨hL, .inr ⟨rfl, e2, rfl⟩⟩, (fun h => by cases h), fun _ => rfl⟩
    · refine ⟨⟨g, [], cur.toList.drop ((n + m) * z), cap, none⟩, by rw [e1]; rfl, ⟨hL, .inl ⟨rfl, rfl, ?_, e4, e5⟩⟩, (fun _ => ⟨by rw [e1]; rfl, rfl, ?_⟩), fun h => absurd rfl h⟩
      · show (cells ++ news).length + (cur.toList.drop ((n + m) * z)).length = cap * z
        rw [hL, List.length_drop, Array.length_toList, e6]
        have : (n + m) * z ≤ cap * z := Nat.mul_le_mul_right _ e4
        omega
      · rw [e3]
        congr 2
        apply Array.toList_inj.1
        rw [← e7]
        simp
  have hU : Upd (fun q => some q = vb) w w' := ⟨h3.os, h3.tape, h3.output, h3.size, fun q hq hnq => h3.block q hq hnq⟩
  have hupN : updR ρ N rr N = rr := if_pos rfl
  have hNo : ∀ d, o = some d → ∃ iv, zD en d = some ⟨(e, 0, iv), cells, true⟩ ∧ pr d ∧ killE en o = zE en d (deadOf ⟨(e, 0, iv), cells, true⟩) := fun d h => by
    subst h
    cases hX with
    | some h => exact ⟨_, h, ldX _ rfl, by simp only [killE, h]; rfl⟩
    | lit _ _ _ h => exact ⟨_, h, x2, by simp only [killE, h]⟩
  have hcw : wfs pr cells := by
    cases hX with
    | none _ h2 => subst h2; exact fun y hy => nomatch hy
    | zero _ h2 _ => subst h2; exact fun y hy => nomatch hy
    | some hd' => exact (hw.hp _ _ _ _ (ldX _ rfl) hd').wf
    | lit _ _ _ hd' => exact (hw.hp _ _ _ _ x2 hd').wf
  obtain ⟨k1, k2⟩ := Hw.rebuild (C := C) (ρ := ρ) (pr := pr) (en := en) (en' := en') (w := w) (w' := w') (N := N) (e := rwE e z (n + m) (cells ++ news)) (T := fun q => some q = vb) rr hw lN hn0 hU
    (fun q hq' hT => by
      obtain ⟨d, iv, e1, e2, e3, e4, e5⟩ := hblk q hT.symm
      rcases hw.mu d _ _ e2 e3 with h | h
      · rw [e5] at h; exact h
      · rw [e5] at h; omega)
    (fun q hq' => by
      have hqN : q ≠ N := fun h => lN (h ▸ hq')
      rw [hq q hqN]
      cases ho : o with
      | none =>
        refine .inl ⟨rfl, fun _ hT => ?_⟩
        obtain ⟨d, _, e1, _⟩ := hblk _ hT.symm
        rw [ho] at e1; cases e1
      | some d =>
        obtain ⟨iv, hd', ld, hkd⟩ := hNo d ho
        rw [← ho, hkd]
        by_cases hqd : q = d
        · subst hqd
          exact .inr (.inl ⟨_, hd', by rw [nth_set hd']⟩)
        · refine .inl ⟨nth_set_ne hqd, fun hl hT => ?_⟩
          obtain ⟨d', _, e1, e2, e3, e4, e5⟩ := hblk _ hT.symm
          rw [ho] at e1; cases e1
          exact hqd (hw.inj q d hq' ld hl ((deadE_of hd').2 ⟨he, e4⟩) e5.symm))
    hNe ⟨fun hl => by
        have hnl : rr.nl = none := by have := hl.2; rwa [hupN] at this
        obtain ⟨_, _, hh⟩ := hr3 hnl
        rw [hupN, hh]
        congr 3
        congr 1
        congr 1
        exact (dens_congr (pr := pr) (by
          intro y hy
          rcases List.mem_append.1 hy with hy | hy
          · exact hcw y hy
          · exact hwn _ y hy) (fun q hq' => if_neg (fun h : q = N => lN (h ▸ hq')))).symm,
      (by
        intro y hy
        rcases List.mem_append.1 hy with hy | hy
        · exact SC.wf_mono (hcw y hy) (fun _ h => .inl h)
        · exact hwn _ y hy),
      (fun hd => absurd (show e = DEAD from hd) he),
      (fun hn => by
        have hnl : rr.nl ≠ none := by rwa [hupN] at hn
        obtain ⟨hL, h | ⟨_, h2, _⟩⟩ := hr2
        · exact absurd h.1 hnl
        · rw [h2, Nat.zero_mul] at hL
          exact List.eq_nil_of_length_eq_zero hL)⟩
    ⟨(by
      obtain ⟨_, h | h⟩ := hr2
      · show rr.pre.length = 0; rw [h.2.1]; rfl
      · show rr.pre.length = 0; rw [h.2.2]; rfl), hr2⟩
    (fun hnl q hq' hl hbq => by
      have hqN : q ≠ N := fun h => lN (h ▸ hq')
      rw [hq q hqN] at hl
      obtain ⟨hvb, _, _⟩ := hr3 hnl
      have hlive : deadE (ρ q) (zD en q) = false ∧ (∀ d, o = some d → q ≠ d) := by
        cases ho : o with
        | none => rw [ho] at hl; exact ⟨hl, fun d h => by cases h⟩
        | some d =>
          obtain ⟨iv, hd', ld, hkd⟩ := hNo d ho
          rw [hkd] at hl
          by_cases hqd : q = d
          · subst hqd; rw [nth_set hd'] at hl; simp [deadOf, deadE] at hl
          · rw [nth_set_ne hqd] at hl
            exact ⟨hl, fun d' h => by cases h; exact hqd⟩
      rcases h5 with h5 | h5
      · rw [hvb] at h5
        obtain ⟨d, _, e1, e2, e3, e4, e5⟩ := hblk _ h5.symm
        exact hlive.2 d e1 (hw.inj q d hq' e2 hlive.1 ((deadE_of e3).2 ⟨he, e4⟩) (by rw [e5]; exact hbq))
      · rw [hvb] at h5
        have := hw.lt hq' hlive.1
        simp only [Option.some.injEq] at h5
        omega)
    (fun _ => by
      cases hnl : rr.nl with
      | some p => exact .inr (by rw [hr4 (by rw [hnl]; simp)]; exact Nat.le_refl _)
      | none =>
        obtain ⟨hvb, _, _⟩ := hr3 hnl
        rcases h5 with h5 | h5
        · rw [hvb] at h5
          obtain ⟨d, _, e1, e2, e3, e4, e5⟩ := hblk _ h5.symm
          rw [← e5]; exact hw.mu d _ _ e2 e3
        · rw [hvb] at h5
          simp only [Option.some.injEq] at h5
          rw [h5]; exact .inr hw.up.size)
  have hsame : (fun q => pr q ∨ mk q) = fun q => pr q ∨ q = N := funext fun q => propext (or_congr_right (hmk q))
  rw [hsame]
  refine ⟨updR ρ N rr, ?_, k1, k2⟩
  rw [hr1]
  show rwOf (updR ρ N rr N) (n + m) = rwOf rr (n + m)
  rw [hupN]
theorem append_happ {nE N : Nat} {mk : Nat → Prop} {en en' : List EN} {t e z n m bts : Nat} {X Y : SC} {cells news : List SC} {o : Option Nat} {i : TypeInfo} {zv : Value}
    (ht : C.P.underlying t = some (.slice e)) (hi : C.P.info? e = some i) (hz : i.zero = some zv) (hs : i.size = z) (hb : i.bytes = bts) (hzs : zv.cells.size = z) (hz0 : 0 < z) (he : e ≠ DEAD)
    (hX : RowV en e z n m cells X o) (hY : SrcOk C en Y m news) (hl : news.length = m * z) (hone : qu news = true) (hwn : ∀ pr, wfs pr news)
    (hnm : n + m ≤ 100000000000) (hbts : (n + m) * bts ≤ 140737488355328) (hn0 : C.n0 ≤ N) (hmk : ∀ q, mk q ↔ q = N)
    (hNe : zD en' N = some (rwE e z (n + m) (cells ++ news))) (hq : ∀ q, q ≠ N → zD en' q = zD (killE en o) q) :
    HApp C nE mk en en' #[t, t] [.c X, .c Y] (.c (.rw N (n + m))) := by
  intro ρ pr w hpr hmn hw hex hwf ty
  have lN : ¬ pr N := hmn _ ((hmk _).2 rfl)
  have x2 : X.wf pr := hwf (.c X) (by simp)
  have y2 : Y.wf pr := hwf (.c Y) (by simp)
  obtain ⟨ad, cp, hyd, hcell⟩ := hY ρ pr w hw y2
  have hln : (dens ρ news).length = m * z := by rw [dens_len, hl]
  have ldX : ∀ d, X = .rw d n → pr d := fun d h => by rw [h] at x2; exact x2
  -- what append does to it
  obtain ⟨vb, hblk, v', w', h1, h2, h3, h5⟩ : ∃ vb : Option Nat, (∀ g, vb = some g → ∃ d iv, o = some d ∧ pr d ∧ zD en d = some ⟨(e, 0, iv), cells, true⟩ ∧ (ρ d).nl = none ∧ (ρ d).blk = g) ∧ ∃ v' w', (Builtin.append_ #[t, t] ty #[X.den ρ, .slice (some ad) m cp]).run C.P w = .ok v' w' ∧ w'.ownsRow 0 e z v' (n + m) (dens ρ cells ++ dens ρ news) ∧ w.grownBy w' vb ∧ (v'.ownBlock = vb ∨ v'.ownBlock = some w.heap.size) := by
    have own : ∀ V, w.ownsRow 0 e z V n (dens ρ cells) → ∃ v' w', (Builtin.append_ #[t, t] ty #[V, .slice (some ad) m cp]).run C.P w = .ok v' w' ∧ w'.ownsRow 0 e z v' (n + m) (dens ρ cells ++ dens ρ news) ∧ w.grownBy w' V.ownBlock ∧ (v'.ownBlock = V.ownBlock ∨ v'.ownBlock = some w.heap.size) := fun V hown => by
      obtain ⟨v', w', h1, h2, h3, _, h5⟩ := run_append_own_at (P := C.P) w 0 t ty e i zv z bts ht hi hz hs hb hzs hz0 V n _ hown ad m cp (dens ρ news) hln hcell (onesS_den hone) (by unfold maxLen; omega) hbts (Nat.zero_le _)
      exact ⟨v', w', h1, h2, h3, h5⟩
    cases hX with
    | none e1 e2 =>
      subst e1; subst e2
      obtain ⟨v', w', h1, h2, h3, h5⟩ := own (.slice none 0 0) (World.ownsRow_nil w 0 e z)
      exact ⟨none, (fun g h => by cases h), v', w', h1, h2, h3, h5⟩
    | zero e1 e2 hm =>
      subst e1; subst e2
      obtain ⟨v', w', h1, h2, h3, h5⟩ := run_append_zero (P := C.P) w (ty := ty) ht hi hz hs hb hzs _ ad m cp (dens ρ news) hln hcell hm (by omega) (by rw [Nat.zero_add] at hbts; exact hbts)
      exact ⟨none, (fun g h => by cases h), v', w', h1, by simpa [dens] using h2, h3, .inr h5⟩
    | some hd' =>
      rename_i d
      have ld : pr d := ldX d rfl
      have hP := hw.hp d _ _ _ ld hd'
      obtain ⟨hL, h | ⟨h1, h2, _⟩⟩ := (hw.ho d _ _ _ ld hd').2
      · obtain ⟨h1, h2, h3, h4, h5⟩ := h
        have hh := hP.heap ⟨he, h1⟩
        have hown : w.ownsRow 0 e z (rwOf (ρ d) n) n (dens ρ cells) := by
          refine ⟨by rw [dens_len, hL], .inr ⟨(ρ d).blk, (ρ d).cap, _, rwOf_on h1 n, Nat.zero_le _, hh, h4, h5, ?_, ?_⟩⟩
          · simp [h2, dens_len]; exact h3
          · rw [h2]; simp only [List.nil_append, List.toList_toArray]
            rw [List.take_append_of_le_length (by rw [dens_len, hL]; exact Nat.le_refl _), List.take_of_length_le (by rw [dens_len, hL]; exact Nat.le_refl _)]
        obtain ⟨v', w', g1, g2, g3, g5⟩ := own _ hown
        have hob : (rwOf (ρ d) n).ownBlock = some (ρ d).blk := by rw [rwOf_on h1]; rfl
        rw [hob] at g3 g5
        exact ⟨some (ρ d).blk, (fun g hg => ⟨d, _, rfl, ld, hd', h1, Option.some.inj hg⟩), v', w', g1, g2, g3, g5⟩
      · subst h2
        have hc : cells = [] := List.eq_nil_of_length_eq_zero (by rw [hL]; simp)
        subst hc
        obtain ⟨v', w', g1, g2, g3, g5⟩ := own (.slice none 0 0) (World.ownsRow_nil w 0 e z)
        have hvd : (SC.rw d 0).den ρ = .slice none 0 0 := by show rwOf (ρ d) 0 = _; rw [rwOf_off h1]
        rw [hvd]
        exact ⟨none, (fun g h => by cases h), v', w', g1, g2, g3, g5⟩
    | lit hcl hcn hnx hd' =>
      rename_i d
      have ld : pr d := x2
      have hP := hw.hp d _ _ _ ld hd'
      have hnl : (ρ d).nl = none := Decidable.byContradiction fun h => hcn (hP.non h)
      obtain ⟨_, h1, h2⟩ := hw.ho d _ _ _ ld hd'
      have hh := hP.heap ⟨he, hnl⟩
      rw [h1, h2] at hh
      have hvd : (SC.sl d 0 n n).den ρ = .slice (some ⟨(ρ d).blk, 0, none⟩) n n := by simp only [SC.den, h1]; rfl
      have hown : w.ownsRow 0 e z (.slice (some ⟨(ρ d).blk, 0, none⟩) n n) n (dens ρ cells) := by
        refine ⟨by rw [dens_len, hcl], .inr ⟨(ρ d).blk, n, _, rfl, Nat.zero_le _, hh, Nat.le_refl _, hnx, ?_, ?_⟩⟩
        · simp [dens_len, hcl]
        · simp only [List.nil_append, List.append_nil, List.toList_toArray]
          rw [List.take_of_length_le (by rw [dens_len, hcl]; exact Nat.le_refl _)]
      obtain ⟨v', w', g1, g2, g3, g5⟩ := own _ hown
      rw [hvd]
      exact ⟨some (ρ d).blk, (fun g hg => ⟨d, _, rfl, ld, hd', hnl, Option.some.inj hg⟩), v', w', g1, g2, g3, g5⟩
  have hcat : dens ρ cells ++ dens ρ news = dens ρ (cells ++ news) := by simp [dens]
  rw [hcat] at h2
  obtain ⟨ρ', e0, k1, k2⟩ := append_core (C := C) he hX hwn hn0 hmk hNe hq lN hw x2 hblk h2 h3 h5
  refine ⟨ρ', w', ?_, k1, .inr ((hmk N).2 rfl), k2⟩
  rw [e0]
  have eX : (SV.c X).den ρ = X.den ρ := rfl
  have eY : (SV.c Y).den ρ = .slice (some ad) m cp := hyd
  simp only [List.map_cons, List.map_nil, eX, eY]
  exact h1
def hap (o : Option Nat) (e z n : Nat) (cells : List SC) : HF := fun en => (.c (.rw (zG en) n), zF (killE en o) (rwE e z n cells))
theorem append_op {x y : Operand} {t e z n m bts : Nat} {X Y : SC} {cells news : List SC} {o : Option Nat} {i : TypeInfo} {zv : Value}
    (ht : C.P.underlying t = some (.slice e)) (hi : C.P.info? e = some i) (hz : i.zero = some zv) (hs : i.size = z) (hb : i.bytes = bts) (hzs : zv.cells.size = z) (hz0 : 0 < z) (he : e ≠ DEAD)
    (hX : RowV en e z n m cells X o) (hx : ev sl x = some (.c X)) (hy : ev sl y = some (.c Y)) (hY : SrcOk C en Y m news) (hl : news.length = m * z) (hone : qu news = true) (hwn : ∀ pr, wfs pr news)
    (hnm : n + m ≤ 100000000000) (hbts : (n + m) * bts ≤ 140737488355328) (hn0 : C.n0 ≤ en.length)
    (hg : gdT all sl gd = true) (hd : ∀ d, dst = some d → d < nt)
    (hK : Run C (.ops all r :: k) nt (jN dst (.c (.rw (zG en) (n + m))) sl) (zF (killE en o) (rwE e z (n + m) (cells ++ news)))) :
    Run C (.ops all (⟨dst, .call ⟨.builtin .append, #[x, y], #[t, t]⟩, ty, pos, af, gd⟩ :: r) :: k) nt sl en := by
  have hle : (zF (killE en o) (rwE e z (n + m) (cells ++ news))).length = en.length + 1 := by rw [snoc_eq]; simp [killE_len]
  refine Run_hop _ _ hg (by rw [hle]; omega) ?_ hd hK
  intro ρ a w hr
  obtain ⟨x1, x2⟩ := hr.ev_ok _ _ hx
  obtain ⟨y1, y2⟩ := hr.ev_ok _ _ hy
  have hA := append_happ (C := C) (nE := 0) (N := en.length) (mk := fun q => q = en.length) (en := en) (en' := zF (killE en o) (rwE e z (n + m) (cells ++ news))) ht hi hz hs hb hzs hz0 he hX hY hl hone hwn hnm hbts hn0 (fun _ => Iff.rfl)
    (by have := nth_snoc (en := killE en o) (e := rwE e z (n + m) (cells ++ news)); rwa [lenN_eq, killE_len] at this)
    (fun q hq => nth_snoc_ne (by rw [lenN_eq, killE_len]; exact hq))
  obtain ⟨ρ', w', h1, h2, h3, h4⟩ := hA ρ (· < en.length) w (fun c hc => absurd hc (Nat.not_lt_zero _)) (fun c hc hp => by rw [hc] at hp; exact Nat.lt_irrefl _ hp) hr.hw (fun c hc => by rw [nthS_eq, List.getElem?_eq_getElem hc]; simp)
    (fun q hq => by simp only [List.mem_cons, List.not_mem_nil, or_false] at hq; rcases hq with rfl | rfl <;> first | exact x2 | exact y2) ty
  refine ⟨ρ', w', ?_, h2, ?_, h4.iff (fun q => by rw [hle]; omega)⟩
  · simp only [List.map_cons, List.map_nil, ← x1, ← y1] at h1
    rw [lenN_eq]
    simp [execOp, resolve, invoke, builtin, h1]
  · show zG en < _
    rw [lenN_eq, hle]; omega
end
end Go.Proofs.YtehfcboiimdkbaaGreatDoor
/- Rows told as their elements' cells, one behind the other: what is read and stored at an element. -/
namespace Go.Proofs.YtehfcboiimdkbaaGreatDoor
set_option linter.unusedSimpArgs false
set_option linter.unusedVariables false
open Go.RowKit
theorem takeN_of {α : Type} : ∀ {n : Nat} {l : List α}, n ≤ l.length → zA n l = some (l.take n)
  | 0, l, _ => by simp [zA]
  | n + 1, [], h => by simp at h
  | n + 1, x :: l, h => by simp [zA, takeN_of (n := n) (l := l) (by simpa using h)]
theorem takeAt_of {α : Type} : ∀ {o n : Nat} {l : List α}, o + n ≤ l.length → zB o n l = some ((l.drop o).take n)
  | 0, n, l, h => by simp [zB, takeN_of (show n ≤ l.length by omega)]
  | o + 1, n, [], h => by simp at h
  | o + 1, n, x :: l, h => by simp only [zB, List.drop_succ_cons]; exact takeAt_of (by simp at h; omega)
section
variable {α : Type} {f : α → List SC} {z : Nat}
def flatG (f : α → List SC) (xs : List α) : List SC := xs.flatMap f
theorem flatG_len (hz : ∀ x, (f x).length = z) : ∀ xs : List α, (flatG f xs).length = xs.length * z
  | [] => by simp [flatG]
  | x :: xs => by
    have := flatG_len hz xs
    simp only [flatG, List.flatMap_cons, List.length_append, List.length_cons, hz] at this ⊢
    rw [this, Nat.add_mul]; omega
theorem flatG_app (xs ys : List α) : flatG f (xs ++ ys) = flatG f xs ++ flatG f ys := by simp [flatG]
theorem flatG_split (hz : ∀ x, (f x).length = z) {xs : List α} {i : Nat} {x : α} (hx : xs[i]? = some x) : flatG f xs = flatG f (xs.take i) ++ f x ++ flatG f (xs.drop (i + 1)) ∧ (flatG f (xs.take i)).length = i * z := by
  have hi := (List.getElem?_eq_some_iff.1 hx).1
  have e : xs = xs.take i ++ x :: xs.drop (i + 1) := by
    have h1 : xs[i] = x := (List.getElem?_eq_some_iff.1 hx).2
    rw [← h1, ← List.drop_eq_getElem_cons hi, List.take_append_drop]
  refine ⟨?_, by rw [flatG_len hz, List.length_take, Nat.min_eq_left (by omega)]⟩
  conv => lhs; rw [e]
  rw [flatG_app]
  simp [flatG]
theorem flatG_take (hz : ∀ x, (f x).length = z) {xs : List α} {i : Nat} {x : α} (hx : xs[i]? = some x) : zB (i * z) z (flatG f xs) = some (f x) := by
  obtain ⟨h1, h2⟩ := flatG_split hz hx
  rw [takeAt_of (by rw [h1]; simp only [List.length_append, h2, hz]; omega), h1, List.append_assoc, ← h2, List.drop_left, List.take_left' (hz x)]
theorem flatG_nth (hz : ∀ x, (f x).length = z) {xs : List α} {i j : Nat} {x : α} (hx : xs[i]? = some x) (hj : j < z) : zD (flatG f xs) (i * z + j) = (f x)[j]? := by
  obtain ⟨h1, h2⟩ := flatG_split hz hx
  rw [nthS_eq, h1, List.append_assoc, List.getElem?_append_right (by omega), h2, Nat.add_sub_cancel_left, List.getElem?_append_left (by rw [hz]; exact hj)]
theorem flatG_lay (hz : ∀ x, (f x).length = z) {xs : List α} {i : Nat} {x y : α} (hx : xs[i]? = some x) : zC (i * z) (f y) (flatG f xs) = some (flatG f (xs.set i y)) := by
  obtain ⟨h1, h2⟩ := flatG_split hz hx
  have hi := (List.getElem?_eq_some_iff.1 hx).1
  have hy : (xs.set i y)[i]? = some y := by rw [List.getElem?_set_self hi]
  obtain ⟨h3, _⟩ := flatG_split hz hy
  rw [List.take_set_of_le (Nat.le_refl i), List.drop_set_of_lt (by omega)] at h3
  rw [h1, h3]
  have key : ∀ (a b c d : List SC), b.length = d.length → zC a.length d (a ++ b ++ c) = some (a ++ d ++ c) := by
    intro a b c d hbd
    induction a with
    | nil =>
      simp only [List.length_nil, List.nil_append]
      induction d generalizing b with
      | nil =>
        have : b = [] := List.eq_nil_of_length_eq_zero hbd
        subst this; simp [zC]
      | cons q d ih =>
        cases b with
        | nil => simp at hbd
        | cons p b => simp [zC, ih b (by simpa using hbd)]
    | cons p a ih => simp only [List.cons_append, List.length_cons, zC]; rw [ih]
  rw [← h2]
  exact key _ _ _ _ (by rw [hz, hz])
end
end Go.Proofs.YtehfcboiimdkbaaGreatDoor
/- A walk: values told in another way, where a fact on where entries lie makes them the same; a row as a slice with a room that is a letter. No program in sight. -/
namespace Go.Proofs.YtehfcboiimdkbaaGreatDoor
set_option linter.unusedSimpArgs false
set_option linter.unusedVariables false
open Go.RowKit
section
variable {C : Cx} {nt : Nat} {sl : List (Nat × SV)} {en : List EN} {k : List KI}
def aliE (Φ : (Nat → RE) → Prop) (n : Nat) : List EN → List EN → Prop
  | [], [] => True
  | e :: l, e' :: l' => (e.ty = e'.ty ∧ e.mu = e'.mu ∧ (∀ ρ : Nat → RE, Φ ρ → dens ρ e'.cells = dens ρ e.cells) ∧ (wfs (· < n) e.cells → wfs (· < n) e'.cells)) ∧ aliE Φ n l l'
  | _, _ => False
theorem aliE_same (Φ : (Nat → RE) → Prop) (n : Nat) : ∀ l : List EN, aliE Φ n l l
  | [] => trivial
  | _ :: l => ⟨⟨rfl, rfl, fun _ _ => rfl, id⟩, aliE_same Φ n l⟩
theorem aliE_len {Φ : (Nat → RE) → Prop} {n : Nat} : ∀ {l l' : List EN}, aliE Φ n l l' → l.length = l'.length
  | [], [], _ => rfl
  | _ :: l, _ :: l', h => by simp [aliE_len h.2]
  | [], _ :: _, h => h.elim
  | _ :: _, [], h => h.elim
theorem aliE_get {Φ : (Nat → RE) → Prop} {n : Nat} : ∀ {l l' : List EN}, aliE Φ n l l' → ∀ c e', zD l' c = some e' → ∃ e, zD l c = some e ∧ e.ty = e'.ty ∧ e.mu = e'.mu ∧ (∀ ρ : Nat → RE, Φ ρ → dens ρ e'.cells = dens ρ e.cells) ∧ (wfs (· < n) e.cells → wfs (· < n) e'.cells)
  | [], [], _, c, e', h => by simp [zD] at h
  | e :: l, e' :: l', h, 0, x, hx => by
    simp only [zD, Option.some.injEq] at hx; subst hx
    exact ⟨e, rfl, h.1.1, h.1.2.1, h.1.2.2.1, h.1.2.2.2⟩
  | e :: l, e' :: l', h, c + 1, x, hx => by
    simp only [zD] at hx ⊢
    exact aliE_get h.2 c x hx
  | [], _ :: _, h, _, _, _ => h.elim
  | _ :: _, [], h, _, _, _ => h.elim
def aliS (Φ : (Nat → RE) → Prop) (n : Nat) (sl : List (Nat × SV)) : List (Nat × SV) → Prop
  | [] => True
  | (d, v') :: r => (∃ v, qy sl d = some v ∧ (∀ ρ : Nat → RE, Φ ρ → v'.den ρ = v.den ρ) ∧ (v.wf (· < n) → v'.wf (· < n))) ∧ aliS Φ n sl r
theorem aliS_get {Φ : (Nat → RE) → Prop} {n : Nat} {sl : List (Nat × SV)} : ∀ {s : List (Nat × SV)}, aliS Φ n sl s → ∀ d v', qy s d = some v' → ∃ v, qy sl d = some v ∧ (∀ ρ : Nat → RE, Φ ρ → v'.den ρ = v.den ρ) ∧ (v.wf (· < n) → v'.wf (· < n))
  | [], _, d, v, h => by simp [qy] at h
  | (e, u) :: s, hs, d, v, h => by
    simp only [qy] at h
    split at h
    · rename_i e'; subst e'; simp only [Option.some.injEq] at h; subst h; exact hs.1
    · exact aliS_get hs.2 d v h
theorem Rep.alias {Φ : (Nat → RE) → Prop} {ρ : Nat → RE} {a : Act} {w : World} {en' : List EN} {sl' : List (Nat × SV)} (hr : Rep C ρ nt sl en a w) (hΦ : Φ ρ) (hen : aliE Φ (zG en) en en') (hsl : aliS Φ (zG en) sl sl') : Rep C ρ nt sl' en' a w := by
  rw [lenN_eq] at hen hsl
  have hlen := aliE_len hen
  have hdd : ∀ c, c < en'.length → deadE (ρ c) (zD en' c) = false → deadE (ρ c) (zD en c) = false := by
    intro c hc hd
    obtain ⟨e', he'⟩ : ∃ e', zD en' c = some e' := ⟨_, by rw [nthS_eq]; exact List.getElem?_eq_getElem hc⟩
    obtain ⟨t1, c1, m1⟩ := e'
    obtain ⟨⟨t0, c0, m0⟩, q1, q2, _⟩ := aliE_get hen c _ he'
    simp only at q2; subst q2
    exact (deadE_of q1).2 ((deadE_of he').1 hd)
  refine ⟨⟨?_, ?_, ?_, hr.hw.up, ?_, hr.hw.ini⟩, ?_, hr.sz, hr.df, by have := hr.n0; omega⟩
  · intro c t cells mu' hc he
    obtain ⟨⟨t0, c0, m0⟩, q1, q2, q3, q4, q5⟩ := aliE_get hen c _ he
    simp only at q2 q3 q4 q5
    subst q2; subst q3
    have hc : c < en'.length := hc
    have hh := hr.hw.hp c t0 c0 m0 (by show c < en.length; omega) q1
    have hd := q4 ρ hΦ
    have nil : c0 = [] → cells = [] := fun e => by rw [e] at hd; simpa [dens] using hd
    refine ⟨fun hl => by rw [hd]; exact hh.heap hl, ?_, fun hd' => ⟨nil (hh.dead hd').1, (hh.dead hd').2⟩, fun hn => nil (hh.non hn)⟩
    have := q5 hh.wf
    rwa [hlen] at this
  · intro c t cells mu' hc he
    obtain ⟨⟨t0, c0, m0⟩, q1, q2, q3, q4, q5⟩ := aliE_get hen c _ he
    simp only at q2 q4; subst q2
    have hc : c < en'.length := hc
    exact hr.hw.ho c t0 c0 m0 (by show c < en.length; omega) q1
  · intro c d hc hd h1 h2 h3
    have hc : c < en'.length := hc
    have hd : d < en'.length := hd
    exact hr.hw.inj c d (by show c < en.length; omega) (by show d < en.length; omega) (hdd c hc h1) (hdd d hd h2) h3
  · intro c t cells hc he
    obtain ⟨⟨t0, c0, m0⟩, q1, q2, q3, q4, q5⟩ := aliE_get hen c _ he
    simp only at q2 q3; subst q2; subst q3
    have hc : c < en'.length := hc
    exact hr.hw.mu c t0 c0 (by show c < en.length; omega) q1
  · intro d v' hd
    obtain ⟨v, q1, q2, q3⟩ := aliS_get hsl d v' hd
    obtain ⟨t1, t2⟩ := hr.tm d v q1
    rw [q2 ρ hΦ]
    refine ⟨t1, ?_⟩
    have := q3 t2
    rwa [hlen] at this
theorem Run_alias {M : Type} {Φ : M → (Nat → RE) → Prop} {en' : M → List EN} {sl' : M → List (Nat × SV)} (hΦ : ∀ ρ w, Hw C ρ (· < en.length) en w → ∃ m, Φ m ρ) (hen : ∀ m, aliE (Φ m) (zG en) en (en' m)) (hsl : ∀ m, aliS (Φ m) (zG en) sl (sl' m)) (h : ∀ m, Run C k nt (sl' m) (en' m)) : Run C k nt sl en := by
  intro ρ a w hr
  obtain ⟨m, hm⟩ := hΦ ρ w hr.hw
  exact h m ρ a w (hr.alias hm (hen m) (hsl m))
end
end Go.Proofs.YtehfcboiimdkbaaGreatDoor
/- A walk may forget entries that nothing refers to. No program in sight. -/
namespace Go.Proofs.YtehfcboiimdkbaaGreatDoor
set_option linter.unusedSimpArgs false
set_option linter.unusedVariables false
open Go.RowKit
section
variable {C : Cx} {nt : Nat} {sl : List (Nat × SV)} {en : List EN} {k : List KI}
theorem getS_mem : ∀ {sl : List (Nat × SV)} {d : Nat} {v : SV}, qy sl d = some v → (d, v) ∈ sl
  | [], d, v, h => by simp [qy] at h
  | (e, u) :: s, d, v, h => by
    simp only [qy] at h
    split at h
    · rename_i e'; subst e'; simp only [Option.some.injEq] at h; subst h; simp
    · exact List.mem_cons_of_mem _ (getS_mem h)
end
end Go.Proofs.YtehfcboiimdkbaaGreatDoor
/- make of a row of elements of one cell; a text of a row of bytes. No program in sight. -/
namespace Go.Proofs.YtehfcboiimdkbaaGreatDoor
set_option linter.unusedSimpArgs false
set_option linter.unusedVariables false
open Go.RowKit
section
variable {C : Cx} {nt : Nat} {sl : List (Nat × SV)} {en : List EN} {k : List KI}
variable {dst : Option Nat} {op : Op} {ty : TypeId} {pos : String} {af : Array Edge} {all r : List Oper} {gd : Option (Nat × Bool)}
end
end Go.Proofs.YtehfcboiimdkbaaGreatDoor
