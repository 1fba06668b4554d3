/- Structs compared: cell by cell, nested structs too; answers and items. -/
import Derived.Test.YtfmpdbngpknmaaaDoorBI
import Derived.Test.YtfmpdbngpknmaaaDoorBB
namespace Go.Proofs.YtfmpdbngpknmaaaDoor
set_option linter.unusedSimpArgs false
set_option linter.unusedVariables false
open Go.RowKit

/-- the fields' cells, if all are numbers, texts, truths, or structs of such; what is left of both lists -/
def ckB (P : Program) : Nat → Nat → List Field → List SC → List SC → Option (List SC × List SC)
  | 0, _, _, _, _ => none
  | _ + 1, _, [], l, m => some (l, m)
  | n + 1, o, f :: fs, l, m => if f.name = "_" ∨ f.offset ≠ o then none else match P.underlying f.type, l, m with
    | some (.int _), .i k _ :: l, .i k' _ :: m => if k = k' then ckB P n (o + 1) fs l m else none
    | some .string, .s _ :: l, .s _ :: m => ckB P n (o + 1) fs l m
    | some .bool, .b _ :: l, .b _ :: m => ckB P n (o + 1) fs l m
    | some (.struct gs), l, m => if P.stoodInHeld f.type then none else match ckB P n 0 gs.toList l m with
      | some (l', m') => if P.info? f.type |>.any (fun i => i.size + l'.length == l.length && i.size + m'.length == m.length) then ckB P n (o + (l.length - l'.length)) fs l' m' else none
      | none => none
    | _, _, _ => none
theorem eqCs_app : ∀ {a c b d : List SC}, a.length = c.length → qM (a ++ b) (c ++ d) = (qM a c && qM b d)
  | [], [], _, _, _ => by simp [qM]
  | x :: a, y :: c, b, d, h => by
    simp only [List.cons_append, qM, eqCs_app (a := a) (c := c) (by simpa using h), Bool.and_assoc]
  | [], _ :: _, _, _, h => by simp at h
  | _ :: _, [], _, _, h => by simp at h
section
variable {P : Program}
theorem part_cell {t : TypeId} {d : TypeDesc} {xs : Array Value} {o : Nat} {v : Value} (w : World) (ht : P.underlying t = some d) (ha : aggD (some d) = false) (hx : xs[o]? = some v) : (part t xs o).run P w = .ok v w := by
  have := run_isAgg (P := P) (w := w) ht
  rw [ha] at this
  simp [part, this, hx]
theorem part_agg {t : TypeId} {d : TypeDesc} {i : TypeInfo} {xs : Array Value} {o : Nat} (w : World) (ht : P.underlying t = some d) (hi : P.info? t = some i) (ha : aggD (some d) = true) : (part t xs o).run P w = .ok (.agg (xs.extract o (o + i.size))) w := by
  have := run_isAgg (P := P) (w := w) ht
  rw [ha] at this
  simp [part, this, run_sizeOf hi]
theorem bs_list (l : List UInt8) : (ByteArray.mk l.toArray).toList = l := by rw [ByteArray.toList_eq]
theorem fields_eq {ρ : Nat → RE} {w : World} : ∀ (n o : Nat) (fs : List Field) (l m l' m' : List SC), ckB P n o fs l m = some (l', m') →
    ∃ l1 m1, l = l1 ++ l' ∧ m = m1 ++ m' ∧ l1.length = m1.length ∧ ∀ (d : Nat) (xs ys : Array Value), (∀ (i : Nat) x, l1[i]? = some x → xs[o + i]? = some (x.den ρ)) → (∀ (i : Nat) x, m1[i]? = some x → ys[o + i]? = some (x.den ρ)) → (Op.eqFields (d + n) xs ys fs).run P w = .ok (qM l1 m1) w := by
  intro n
  induction n with
  | zero => intro o fs l m l' m' h; simp [ckB] at h
  | succ n ih =>
    intro o fs l m l' m' h
    cases fs with
    | nil =>
      simp only [ckB, Option.some.injEq, Prod.mk.injEq] at h
      obtain ⟨rfl, rfl⟩ := h
      exact ⟨[], [], rfl, rfl, rfl, fun d xs ys _ _ => by simp [Op.eqFields, qM]⟩
    | cons f fs =>
      simp only [ckB] at h
      split at h
      · cases h
      rename_i hno
      have hname : f.name ≠ "_" := fun e => hno (.inl e)
      have hoff : f.offset = o := Decidable.byContradiction fun e => hno (.inr e)
      -- one cell
      have one : ∀ (x y : SC) (l0 m0 : List SC) (td : TypeDesc), l = x :: l0 → m = y :: m0 → P.underlying f.type = some td → aggD (some td) = false → (∀ d, (Op.equalIn (d + 1) f.type (x.den ρ) (y.den ρ)).run P w = .ok (qL x y) w) → ckB P n (o + 1) fs l0 m0 = some (l', m') →
          ∃ l1 m1, l = l1 ++ l' ∧ m = m1 ++ m' ∧ l1.length = m1.length ∧ ∀ (d : Nat) (xs ys : Array Value), (∀ (i : Nat) x, l1[i]? = some x → xs[o + i]? = some (x.den ρ)) → (∀ (i : Nat) x, m1[i]? = some x → ys[o + i]? = some (x.den ρ)) → (Op.eqFields (d + (n + 1)) xs ys (f :: fs)).run P w = .ok (qM l1 m1) w := by
        intro x y l0 m0 td e1 e2 hu hag heq hck
        obtain ⟨l1, m1, rfl, rfl, hlen, hrun⟩ := ih (o + 1) fs l0 m0 l' m' hck
        refine ⟨x :: l1, y :: m1, e1, e2, by simp [hlen], fun d xs ys hx hy => ?_⟩
        have p1 := part_cell (P := P) w hu hag (hx 0 x rfl)
        have p2 := part_cell (P := P) w hu hag (hy 0 y rfl)
        rw [Nat.add_zero, ← hoff] at p1 p2
        have hr := hrun (d + 1) xs ys (fun i z hz => by have := hx (i + 1) z hz; rwa [show o + (i + 1) = o + 1 + i by omega] at this) (fun i z hz => by have := hy (i + 1) z hz; rwa [show o + (i + 1) = o + 1 + i by omega] at this)
        rw [show d + 1 + n = d + (n + 1) by omega] at hr
        have he := heq (d + n)
        rw [show d + n + 1 = d + (n + 1) by omega] at he
        simp only [Op.eqFields, if_pos hname, Sem.run_bind, p1, p2, Result.andThen_ok, he, qM]
        cases qL x y with
        | true => simpa using hr
        | false => simp
      split at h
      · rename_i q k a l0 k' b m0 hu
        split at h
        · rename_i hk
          subst hk
          exact one (.i k a) (.i k b) l0 m0 _ rfl rfl hu rfl (fun d => run_equalIn_int w d f.type k q a b hu) h
        · cases h
      · rename_i a l0 b m0 hu
        refine one (.s a) (.s b) l0 m0 _ rfl rfl hu rfl (fun d => ?_) h
        have := run_equalIn_string (P := P) w d f.type ⟨a.toArray⟩ ⟨b.toArray⟩ hu
        rw [bs_list, bs_list] at this
        exact this
      · rename_i a l0 b m0 hu
        exact one (.b a) (.b b) l0 m0 _ rfl rfl hu rfl (fun d => run_equalIn_bool' w d f.type a b hu) h
      · rename_i l m _ _ _ gs hu
        split at h
        · cases h
        rename_i hst
        split at h
        · rename_i l2 m2 hck
          split at h
          · rename_i hsz
            obtain ⟨l1, m1, rfl, rfl, hlen, hrun⟩ := ih 0 gs.toList l m l2 m2 hck
            obtain ⟨l3, m3, rfl, rfl, hlen3, hrun3⟩ := ih _ fs l2 m2 l' m' h
            cases hi : P.info? f.type with
            | none => rw [hi] at hsz; simp at hsz
            | some i =>
              rw [hi] at hsz
              simp only [Option.any_some, Bool.and_eq_true, beq_iff_eq, List.length_append] at hsz
              have hs1 : i.size = l1.length := by omega
              have hs2 : i.size = m1.length := by omega
              refine ⟨l1 ++ l3, m1 ++ m3, by simp, by simp, by simp [hlen, hlen3], fun d xs ys hx hy => ?_⟩
              have p1 := part_agg (P := P) (xs := xs) (o := o) w hu hi rfl
              have p2 := part_agg (P := P) (xs := ys) (o := o) w hu hi rfl
              have hfo : P.fieldsOf f.type = gs := by simp [Program.fieldsOf, hu]
              have hr := hrun d (xs.extract o (o + i.size)) (ys.extract o (o + i.size))
                (fun j z hz => by
                  have hj := (List.getElem?_eq_some_iff.1 hz).1
                  have := hx j z (by rw [List.getElem?_append_left hj]; exact hz)
                  rw [Nat.zero_add, Array.getElem?_extract, if_pos (by
                    have := (Array.getElem?_eq_some_iff.1 this).1
                    omega)]
                  exact this)
                (fun j z hz => by
                  have hj := (List.getElem?_eq_some_iff.1 hz).1
                  have := hy j z (by rw [List.getElem?_append_left hj]; exact hz)
                  rw [Nat.zero_add, Array.getElem?_extract, if_pos (by
                    have := (Array.getElem?_eq_some_iff.1 this).1
                    omega)]
                  exact this)
              have he := run_equalIn_struct (P := P) w (d + n) f.type (xs.extract o (o + i.size)) (ys.extract o (o + i.size)) (by rw [hfo]; exact hu) (by simpa using hst)
              rw [hfo, hr] at he
              have hr3 := hrun3 (d + 1) xs ys
                (fun j z hz => by
                  have := hx (l1.length + j) z (by rw [List.getElem?_append_right (by omega), Nat.add_sub_cancel_left]; exact hz)
                  rw [show o + ((l1 ++ (l3 ++ l')).length - (l3 ++ l').length) + j = o + (l1.length + j) by simp; omega]; exact this)
                (fun j z hz => by
                  have := hy (m1.length + j) z (by rw [List.getElem?_append_right (by omega), Nat.add_sub_cancel_left]; exact hz)
                  rw [show o + ((l1 ++ (l3 ++ l')).length - (l3 ++ l').length) + j = o + (m1.length + j) by simp; omega]; exact this)
              rw [show d + 1 + n = d + (n + 1) by omega] at hr3
              rw [show d + n + 1 = d + (n + 1) by omega] at he
              rw [eqCs_app hlen]
              simp only [Op.eqFields, if_pos hname, hoff, Sem.run_bind, p1, p2, Result.andThen_ok, he]
              cases qM l1 m1 with
              | true => simpa using hr3
              | false => simp
          · cases h
        · cases h
      · cases h
/-- at this type they are compared cell by cell -/
theorem stEq_of {t : TypeId} {la lb : List SC} (hg : P.eqGuardType P.depth t = false) (hu : P.underlying t = some (.struct (P.fieldsOf t))) (hst : P.stoodInHeld t = false) (h : ckB P 100 0 (P.fieldsOf t).toList la lb = some ([], [])) : StEq P t la lb := by
  refine ⟨hg, fun ρ w => ?_⟩
  obtain ⟨l1, m1, e1, e2, _, hrun⟩ := fields_eq (P := P) (ρ := ρ) (w := w) 100 0 _ la lb [] [] h
  rw [List.append_nil] at e1 e2
  subst e1; subst e2
  have hr := hrun 9899 (dens ρ la).toArray (dens ρ lb).toArray (fun i x hx => by rw [Nat.zero_add]; simp [dens, hx]) (fun i x hx => by rw [Nat.zero_add]; simp [dens, hx])
  unfold Op.equal Op.maxDepth
  rw [show (10000 : Nat) = 9999 + 1 from rfl, run_equalIn_struct (P := P) w 9999 t _ _ hu hst]
  exact hr
end
theorem stEq_an (a b : An) : StEq Tryd.prog 33 (anS a) (anS b) := stEq_of (by kernel_rfl) (by kernel_rfl) (by kernel_rfl) (by kernel_rfl)
theorem steq_an (s : Int) (k : List UInt8) (f : Int) (v : List UInt8) (e c l : Int) (st wn : Bool) (n : Int) (w x z : Bool) (s' : Int) (k' : List UInt8) (f' : Int) (v' : List UInt8) (e' c' l' : Int) (st' wn' : Bool) (n' : Int) (w' x' z' : Bool) :
    StEq Tryd.prog 33 [.i .i64 s, .s k, .i .u32 f, .s v, .i .i64 e, .i .u64 c, .i .i64 l, .b st, .b wn, .i .u64 n, .b w, .b x, .b z] [.i .i64 s', .s k', .i .u32 f', .s v', .i .i64 e', .i .u64 c', .i .i64 l', .b st', .b wn', .i .u64 n', .b w', .b x', .b z'] :=
  stEq_an ⟨s, ⟨k, f, v, e, c, l, st, wn⟩, n, w, x, z⟩ ⟨s', ⟨k', f', v', e', c', l', st', wn'⟩, n', w', x', z'⟩
theorem stEq_it (a b : It) : StEq Tryd.prog 31 (itS a) (itS b) := stEq_of (by kernel_rfl) (by kernel_rfl) (by kernel_rfl) (by kernel_rfl)
theorem steq_it (k : List UInt8) (f : Int) (v : List UInt8) (e c l : Int) (st wn : Bool) (k' : List UInt8) (f' : Int) (v' : List UInt8) (e' c' l' : Int) (st' wn' : Bool) :
    StEq Tryd.prog 31 [.s k, .i .u32 f, .s v, .i .i64 e, .i .u64 c, .i .i64 l, .b st, .b wn] [.s k', .i .u32 f', .s v', .i .i64 e', .i .u64 c', .i .i64 l', .b st', .b wn'] :=
  stEq_it ⟨k, f, v, e, c, l, st, wn⟩ ⟨k', f', v', e', c', l', st', wn'⟩
end Go.Proofs.YtfmpdbngpknmaaaDoor
