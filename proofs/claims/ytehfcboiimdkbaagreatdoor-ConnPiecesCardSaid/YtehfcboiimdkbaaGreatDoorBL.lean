/- A symbolic walk: values as the walk sees them, what they mean in a world, and the operations that only compute or read. No program in sight. -/
import Derived.Test.YtehfcboiimdkbaaGreatDoorBA
import Derived.Laws.CopyRow
import Derived.Laws.AppendOwn
import Derived.Orders
import Derived.KernelRfl
import Derived.Deep.Frames
import Derived.Deep.LoopGhost
namespace Go.Proofs.YtehfcboiimdkbaaGreatDoor
set_option linter.unusedSimpArgs false
set_option linter.unusedVariables false
open Go.RowKit
inductive SC where
  | v (x : Value)
  | i (k : IntKind) (n : Int)
  | b (x : Bool)
  | s (l : List UInt8)
  | p (c o : Nat)
  | sl (c o n m : Nat)
  | rw (c n : Nat)
  | f (fn : Fn) (cap : List (Nat × Nat))
  | u
inductive TE where
  | c (x : SC)
  | g (l : List SC)
inductive SV where
  | c (x : SC)
  | g (l : List SC)
  | t (l : List TE)
structure RE where
  blk : Nat
  pre : List Value
  post : List Value
  cap : Nat
  nl : Option (Option Addr)
def ptrOf (ρ : Nat → RE) (c o : Nat) : Value := .pointer (some ⟨(ρ c).blk, (ρ c).pre.length + o, none⟩)
def rwOf (r : RE) (n : Nat) : Value := match r.nl with
  | none => .slice (some ⟨r.blk, 0, none⟩) n r.cap
  | some p => .slice p n 0
def SC.den (ρ : Nat → RE) : SC → Value
  | .v x => x
  | .i k n => .int k n
  | .b x => .bool x
  | .s l => .string ⟨l.toArray⟩
  | .p c o => ptrOf ρ c o
  | .sl c o n m => .slice (some ⟨(ρ c).blk, (ρ c).pre.length + o, none⟩) n m
  | .rw c n => rwOf (ρ c) n
  | .f fn cap => .func fn #[] (cap.map fun x => ptrOf ρ x.1 x.2).toArray
  | .u => undef
theorem rwOf_sl (r : RE) (n : Nat) : ∃ a c, rwOf r n = .slice a n c := by unfold rwOf; split <;> exact ⟨_, _, rfl⟩
theorem rwOf_on {r : RE} (h : r.nl = none) (n : Nat) : rwOf r n = .slice (some ⟨r.blk, 0, none⟩) n r.cap := by unfold rwOf; rw [h]
theorem rwOf_off {r : RE} {p : Option Addr} (h : r.nl = some p) (n : Nat) : rwOf r n = .slice p n 0 := by unfold rwOf; rw [h]
def dens (ρ : Nat → RE) (l : List SC) : List Value := l.map (SC.den ρ)
def TE.den (ρ : Nat → RE) : TE → Value
  | .c x => x.den ρ
  | .g l => .agg (dens ρ l).toArray
def SV.den (ρ : Nat → RE) : SV → Value
  | .c x => x.den ρ
  | .g l => .agg (dens ρ l).toArray
  | .t l => .tuple (l.map (TE.den ρ)).toArray
def TE.sv : TE → SV
  | .c x => .c x
  | .g l => .g l
theorem TE.den_sv (ρ : Nat → RE) (x : TE) : x.sv.den ρ = x.den ρ := by cases x <;> rfl
def SC.wf (pr : Nat → Prop) : SC → Prop
  | .p c _ => pr c
  | .sl c _ _ _ => pr c
  | .rw c _ => pr c
  | .f _ cap => ∀ x ∈ cap, pr x.1
  | _ => True
def wfs (pr : Nat → Prop) (l : List SC) : Prop := ∀ x ∈ l, x.wf pr
def TE.wf (pr : Nat → Prop) : TE → Prop
  | .c x => x.wf pr
  | .g l => wfs pr l
def SV.wf (pr : Nat → Prop) : SV → Prop
  | .c x => x.wf pr
  | .g l => wfs pr l
  | .t l => ∀ x ∈ l, x.wf pr
theorem TE.wf_sv {pr : Nat → Prop} {x : TE} (h : x.wf pr) : x.sv.wf pr := by cases x <;> exact h
section
variable {ρ ρ' : Nat → RE} {pr pr' : Nat → Prop}
theorem SC.den_congr {x : SC} (hx : x.wf pr) (h : ∀ c, pr c → ρ' c = ρ c) : x.den ρ' = x.den ρ := by
  cases x with
  | p c o => simp only [SC.den, ptrOf, h c hx]
  | sl c o n m => simp only [SC.den, h c hx]
  | rw c n => simp only [SC.den, h c hx]
  | f fn cap =>
    simp only [SC.den]
    congr 2
    exact List.map_congr_left fun y hy => by simp only [ptrOf, h y.1 (hx y hy)]
  | _ => rfl
theorem dens_congr {l : List SC} (hx : wfs pr l) (h : ∀ c, pr c → ρ' c = ρ c) : dens ρ' l = dens ρ l :=
  List.map_congr_left fun y hy => SC.den_congr (hx y hy) h
theorem TE.den_congr {x : TE} (hx : x.wf pr) (h : ∀ c, pr c → ρ' c = ρ c) : x.den ρ' = x.den ρ := by
  cases x with
  | c x => exact SC.den_congr hx h
  | g l => simp only [TE.den, dens_congr hx h]
theorem SV.den_congr {x : SV} (hx : x.wf pr) (h : ∀ c, pr c → ρ' c = ρ c) : x.den ρ' = x.den ρ := by
  cases x with
  | c x => exact SC.den_congr hx h
  | g l => simp only [SV.den, dens_congr hx h]
  | t l =>
    simp only [SV.den]
    congr 2
    exact List.map_congr_left fun y hy => TE.den_congr (hx y hy) h
theorem SC.wf_mono {x : SC} (hx : x.wf pr) (h : ∀ c, pr c → pr' c) : x.wf pr' := by
  cases x with
  | p c o => exact h _ hx
  | sl c o n m => exact h _ hx
  | rw c n => exact h _ hx
  | f fn cap => exact fun y hy => h _ (hx y hy)
  | _ => trivial
theorem wfs_mono {l : List SC} (hx : wfs pr l) (h : ∀ c, pr c → pr' c) : wfs pr' l := fun y hy => SC.wf_mono (hx y hy) h
theorem TE.wf_mono {x : TE} (hx : x.wf pr) (h : ∀ c, pr c → pr' c) : x.wf pr' := by
  cases x with
  | c x => exact SC.wf_mono hx h
  | g l => exact wfs_mono hx h
theorem SV.wf_mono {x : SV} (hx : x.wf pr) (h : ∀ c, pr c → pr' c) : x.wf pr' := by
  cases x with
  | c x => exact SC.wf_mono hx h
  | g l => exact wfs_mono hx h
  | t l => exact fun y hy => TE.wf_mono (hx y hy) h
end
def whole : RE → Prop := fun r => r.pre = [] ∧ r.post = []
structure EN where
  ty : TypeId × Nat × (RE → Prop)
  cells : List SC
  mu : Bool
structure TI where
  size : Nat
  agg : Bool
  zero : List SC
  fields : List (Nat × Nat × Bool)
  elem : Nat
  esize : Nat
  kd : Nat
  ik : IntKind
def qz : Value → SC
  | .int k n => .i k n
  | .bool x => .b x
  | .string l => .s l.data.toList
  | x => .v x
theorem ofVal_den (ρ : Nat → RE) (x : Value) : (qz x).den ρ = x := by cases x <;> rfl
theorem ofVal_wf (pr : Nat → Prop) (x : Value) : (qz x).wf pr := by cases x <;> trivial
def aggD : Option TypeDesc → Bool
  | some (.struct _) => true
  | some (.array _ _) => true
  | _ => false
def kdD : Option TypeDesc → Nat
  | some (.int _) => 1
  | some .string => 2
  | some (.slice _) => 3
  | some (.struct _) => 4
  | some (.array _ _) => 5
  | some (.pointer _) => 6
  | some .bool => 7
  | some (.interface _) => 8
  | _ => 0
def ikD : Option TypeDesc → IntKind
  | some (.int k) => k
  | _ => .i64
def elemD : Option TypeDesc → Nat
  | some (.slice e) => e
  | some (.array _ e) => e
  | some (.pointer e) => e
  | _ => 0
def fieldD (P : Program) (f : Field) : Option (Nat × Nat × Bool) :=
  match P.info? f.type, P.underlying f.type with
  | some i, some d => some (f.offset, i.size, aggD (some d))
  | _, _ => none
def fieldsD (P : Program) : TypeDesc → Option (List (Nat × Nat × Bool))
  | .struct fs => fs.toList.mapM (fieldD P)
  | _ => some []
def tiOf (P : Program) (t : TypeId) : Option TI :=
  if t = 4294967295 then none else match P.info? t, P.underlying t with
  | some i, some d => match i.zero, fieldsD P d, P.info? (elemD (some d)) with
    | some z, some fs, some e => some ⟨i.size, aggD (some d), z.cells.toList.map qz, fs, elemD (some d), e.size, kdD (some d), ikD (some d)⟩
    | _, _, _ => none
  | _, _ => none
theorem tiOf_dead (P : Program) : tiOf P 4294967295 = none := by unfold tiOf; rw [if_pos rfl]
def zA {α : Type} : Nat → List α → Option (List α)
  | 0, _ => some []
  | _ + 1, [] => none
  | n + 1, x :: l => match zA n l with
    | some r => some (x :: r)
    | none => none
theorem takeN_some {α : Type} : ∀ {n : Nat} {l r : List α}, zA n l = some r → r = l.take n ∧ n ≤ l.length
  | 0, l, r, h => by simp [zA] at h; simp [h]
  | n + 1, [], r, h => by simp [zA] at h
  | n + 1, x :: l, r, h => by
    simp only [zA] at h
    split at h
    · rename_i q hq
      obtain ⟨h1, h2⟩ := takeN_some hq
      simp only [Option.some.injEq] at h
      subst h
      simp [h1]; omega
    · cases h
def zC {α : Type} : Nat → List α → List α → Option (List α)
  | 0, [], l => some l
  | 0, _ :: _, [] => none
  | 0, v :: vs, _ :: l => match zC 0 vs l with
    | some r => some (v :: r)
    | none => none
  | _ + 1, _, [] => none
  | n + 1, vs, x :: l => match zC n vs l with
    | some r => some (x :: r)
    | none => none
theorem layN_some {α : Type} : ∀ {n : Nat} {vs l r : List α}, zC n vs l = some r → r = l.take n ++ vs ++ l.drop (n + vs.length) ∧ (n + vs.length ≤ l.length ∨ (vs = [] ∧ n ≤ l.length))
  | 0, [], l, r, h => by simp [zC] at h; simp [h]
  | 0, _ :: _, [], r, h => by simp [zC] at h
  | 0, v :: vs, x :: l, r, h => by
    simp only [zC] at h
    split at h
    · rename_i q hq
      obtain ⟨h1, h2⟩ := layN_some hq
      simp only [Option.some.injEq] at h
      subst h
      rw [h1]
      refine ⟨by simp, .inl ?_⟩
      rcases h2 with h2 | ⟨h2, _⟩
      · simp at h2 ⊢; omega
      · subst h2; simp
    · cases h
  | n + 1, vs, [], r, h => by simp [zC] at h
  | n + 1, vs, x :: l, r, h => by
    simp only [zC] at h
    split at h
    · rename_i q hq
      obtain ⟨h1, h2⟩ := layN_some hq
      simp only [Option.some.injEq] at h
      subst h
      rw [h1]
      refine ⟨by simp [Nat.succ_add], ?_⟩
      rcases h2 with h2 | ⟨h2, h3⟩
      · left; simp; omega
      · right; exact ⟨h2, by simp; omega⟩
    · cases h
def zD {α : Type} : List α → Nat → Option α
  | [], _ => none
  | x :: _, 0 => some x
  | _ :: l, n + 1 => zD l n
theorem nthS_eq {α : Type} : ∀ (l : List α) (n : Nat), zD l n = l[n]?
  | [], n => by simp [zD]
  | x :: l, 0 => rfl
  | x :: l, n + 1 => by simp [zD, nthS_eq l n]
def zE {α : Type} : List α → Nat → α → List α
  | [], _, _ => []
  | _ :: l, 0, y => y :: l
  | x :: l, n + 1, y => x :: zE l n y
theorem setN_eq {α : Type} : ∀ (l : List α) (n : Nat) (y : α), zE l n y = l.set n y
  | [], n, y => by simp [zE]
  | x :: l, 0, y => rfl
  | x :: l, n + 1, y => by simp [zE, setN_eq l n]
def qy : List (Nat × SV) → Nat → Option SV
  | [], _ => none
  | (d, v) :: l, t => if d = t then some v else qy l t
def zG {α : Type} : List α → Nat
  | [] => 0
  | _ :: l => zG l + 1
theorem lenN_eq {α : Type} : ∀ l : List α, zG l = l.length
  | [] => rfl
  | _ :: l => by simp [zG, lenN_eq l]
def qA {α : Type} : List α → List α → List α
  | [], m => m
  | x :: l, m => x :: qA l m
theorem appL_eq {α : Type} : ∀ (l m : List α), qA l m = l ++ m
  | [], m => rfl
  | x :: l, m => by simp [qA, appL_eq l m]
def qB : Nat → List SC → List SC
  | 0, _ => []
  | n + 1, z => qA z (qB n z)
def qC : Nat → Nat → Nat → List (Nat × Nat × Bool)
  | 0, _, _ => []
  | n + 1, o, s => (o, s, false) :: qC n (o + s) s
def shlZ (k : IntKind) (a b : Int) : Int := k.wrap (a * 2 ^ (min b.toNat k.bits))
def shrZ (k : IntKind) (a b : Int) : Int := a.fdiv (2 ^ (min b.toNat k.bits))
def andZ (k : IntKind) (a b : Int) : Int := k.wrap ((BitVec.ofInt k.bits a &&& BitVec.ofInt k.bits b).toNat : Int)
def orZ (k : IntKind) (a b : Int) : Int := k.wrap ((BitVec.ofInt k.bits a ||| BitVec.ofInt k.bits b).toNat : Int)
def xorZ (k : IntKind) (a b : Int) : Int := k.wrap ((BitVec.ofInt k.bits a ^^^ BitVec.ofInt k.bits b).toNat : Int)
def qS (op : BinOp) (x y : SC) : Option (Prop × SC) :=
  match op, x, y with
  | .add, .i k a, .i k' b => some (k = k', .i k (k.wrap (a + b)))
  | .sub, .i k a, .i k' b => some (k = k', .i k (k.wrap (a - b)))
  | .mul, .i k a, .i k' b => some (k = k', .i k (k.wrap (a * b)))
  | .quo, .i k a, .i k' b => some (k = k' ∧ b ≠ 0, .i k (k.wrap (a.tdiv b)))
  | .rem, .i k a, .i k' b => some (k = k' ∧ b ≠ 0, .i k (a.tmod b))
  | .eql, .i k a, .i k' b => some (k = k', .b (a == b))
  | .neq, .i k a, .i k' b => some (k = k', .b (a != b))
  | .lss, .i k a, .i k' b => some (k = k', .b (decide (a < b)))
  | .leq, .i k a, .i k' b => some (k = k', .b (decide (a ≤ b)))
  | .gtr, .i k a, .i k' b => some (k = k', .b (decide (b < a)))
  | .geq, .i k a, .i k' b => some (k = k', .b (decide (b ≤ a)))
  | .shl, .i k a, .i _ b => some (0 ≤ b, .i k (shlZ k a b))
  | .shr, .i k a, .i _ b => some (0 ≤ b, .i k (shrZ k a b))
  | .and, .i k a, .i k' b => some (k = k', .i k (andZ k a b))
  | .or, .i k a, .i k' b => some (k = k', .i k (orZ k a b))
  | .xor, .i k a, .i k' b => some (k = k', .i k (xorZ k a b))
  | .add, .s a, .s b => some (a.length + b.length ≤ 9223372036854775807, .s (a ++ b))
  | .eql, .s a, .s b => some (True, .b (a == b))
  | .neq, .s a, .s b => some (True, .b (!(a == b)))
  | .lss, .s a, .s b => some (True, .b (Op.bytesLess a b))
  | .leq, .s a, .s b => some (True, .b (Op.bytesLess a b || a == b))
  | .gtr, .s a, .s b => some (True, .b (!(Op.bytesLess a b || a == b)))
  | .geq, .s a, .s b => some (True, .b (!Op.bytesLess a b))
  | _, _, _ => none
def q0t : SC → Bool
  | .v x => x.oneCell'
  | .u => false
  | _ => true
def qg (fs : List (Nat × Nat × Bool)) (ev : Operand → Option SV) : List (Nat × Operand) → List SC → Option (List SC)
  | [], l => some l
  | (i, x) :: r, l => match zD fs i with
    | some (o, sz, _) => match ev x with
      | some (.c y) => match q0t y with
        | true => if sz = 1 then (match zC o [y] l with | some l' => qg fs ev r l' | none => none) else none
        | false => none
      | some (.g ys) => if sz = ys.length then (match zC o ys l with | some l' => qg fs ev r l' | none => none) else none
      | _ => none
    | none => none
def qq : SC → Option Value
  | .v x => some x
  | .i k n => some (.int k n)
  | .b x => some (.bool x)
  | .s l => some (.string ⟨l.toArray⟩)
  | _ => none
def qD (P : Program) (ev : Operand → Option SV) (t : TypeId) (n : Nat) (ps : List (Nat × Operand)) : Option (TypeId × List SC) :=
  match tiOf P t with
  | some ⟨_, _, _, _, el, _, 3, _⟩ => match tiOf P el with
    | some ⟨sz, _, z, _, _, _, _, _⟩ => match n, ps with
      | 0, [] => some (el, [])
      | _, _ => if zG z = sz ∧ 0 < sz ∧ 0 < n ∧ n * sz ≤ 65536 then match qg (qC n 0 sz) ev ps (qB n z) with
        | some l => some (el, l)
        | none => none else none
    | none => none
  | _ => none
def qk (ev : Operand → Option SV) : List Operand → Option (List (Nat × Nat))
  | [] => some []
  | x :: r => match ev x with
    | some (.c (.p c o)) => match qk ev r with
      | some l => some ((c, o) :: l)
      | none => none
    | _ => none
def ql (ev : Operand → Option SV) (d : Int) : Option Operand → Option Int
  | none => some d
  | some x => match ev x with
    | some (.c (.i _ n)) => some n
    | _ => none
end Go.Proofs.YtehfcboiimdkbaaGreatDoor
/- The operations that only compute or read: what they come to in every world that fits. -/
namespace Go.Proofs.YtehfcboiimdkbaaGreatDoor
set_option linter.unusedSimpArgs false
set_option linter.unusedVariables false
open Go.RowKit
def zB {α : Type} : Nat → Nat → List α → Option (List α)
  | 0, n, l => zA n l
  | _ + 1, _, [] => none
  | o + 1, n, _ :: l => zB o n l
theorem takeAt_some {α : Type} : ∀ {o n : Nat} {l r : List α}, zB o n l = some r → r = (l.drop o).take n ∧ o + n ≤ l.length
  | 0, n, l, r, h => by
    obtain ⟨h1, h2⟩ := takeN_some (by simpa [zB] using h)
    exact ⟨by simpa using h1, by omega⟩
  | o + 1, n, [], r, h => by simp [zB] at h
  | o + 1, n, x :: l, r, h => by
    obtain ⟨h1, h2⟩ := takeAt_some (o := o) (n := n) (l := l) (r := r) (by simpa [zB] using h)
    exact ⟨by simpa using h1, by simp; omega⟩
def qp : Bool → Option SV → Option SV → Option (Prop × SV)
  | true, some y, _ => some (True, y)
  | false, _, some z => some (True, z)
  | _, _, _ => none
def qO : Option SV → Option (Prop × SV)
  | some v => some (True, v)
  | none => none
abbrev Rd := Nat → Nat → Nat → Option (List SC)
def noRd : Rd := fun _ _ _ => none
def qP (rd : Rd) (en : List EN) : Option SV → Option TI → Option (Prop × SV)
  | some (.c (.v (.pointer (some ⟨b, o, none⟩)))), some ⟨sz, true, _, _, _, _, _, _⟩ => match rd b o sz with
    | some l => some (True, .g l)
    | none => none
  | some (.c (.v (.pointer (some ⟨b, o, none⟩)))), some ⟨_, false, _, _, _, _, _, _⟩ => match rd b o 1 with
    | some [x] => some (True, .c x)
    | _ => none
  | some (.c (.p c o)), some ⟨sz, true, _, _, _, _, _, _⟩ => match zD en c with
    | some ⟨_, cells, _⟩ => match zB o sz cells with
      | some l => some (True, .g l)
      | none => none
    | none => none
  | some (.c (.p c o)), some ⟨_, false, _, _, _, _, _, _⟩ => match zD en c with
    | some ⟨_, cells, _⟩ => match zD cells o with
      | some x => some (True, .c x)
      | none => none
    | none => none
  | _, _ => none
def qQ : Option SV → Option (Prop × SV)
  | some (.c (.p c o)) => some (True, .c (.p c o))
  | some (.c (.v (.pointer (some a)))) => some (True, .c (.v (.pointer (some a))))
  | _ => none
def qL : SC → SC → Bool
  | .i _ a, .i _ b => a == b
  | .s a, .s b => a == b
  | .b a, .b b => a == b
  | _, _ => false
def qM : List SC → List SC → Bool
  | [], [] => true
  | x :: l, y :: m => qL x y && qM l m
  | _, _ => false
def StEq (P : Program) (t : TypeId) (la lb : List SC) : Prop := P.eqGuardType P.depth t = false ∧ ∀ (ρ : Nat → RE) (w : World), (Op.equal t (.agg (dens ρ la).toArray) (.agg (dens ρ lb).toArray)).run P w = .ok (qM la lb) w
def qR (P : Program) (op : BinOp) (t : TypeId) : Option SV → Option SV → Option (Prop × SV)
  | some (.g la), some (.g lb) => match op with
    | .eql => some (StEq P t la lb, .c (.b (qM la lb)))
    | .neq => some (StEq P t la lb, .c (.b (!qM la lb)))
    | _ => none
  | some (.c (.b a)), some (.c (.b b)) => match op with
    | .eql => some (P.underlying t = some .bool, .c (.b (a == b)))
    | .neq => some (P.underlying t = some .bool, .c (.b (!(a == b))))
    | _ => none
  | some (.c (.p _ _)), some (.c (.v (.pointer none))) => match op with
    | .eql => some (∃ e, P.underlying t = some (.pointer e), .c (.b false))
    | .neq => some (∃ e, P.underlying t = some (.pointer e), .c (.b true))
    | _ => none
  | some (.c (.v (.pointer none))), some (.c (.v (.pointer none))) => match op with
    | .eql => some (∃ e, P.underlying t = some (.pointer e), .c (.b true))
    | .neq => some (∃ e, P.underlying t = some (.pointer e), .c (.b false))
    | _ => none
  | some (.c x), some (.c y) => match qS op x y with
    | some (p, z) => some (p, .c z)
    | none => none
  | _, _ => none
def qT (op : UnOp) : Option SV → Option (Prop × SV)
  | some (.c (.b x)) => match op with
    | .not => some (True, .c (.b (!x)))
    | _ => none
  | some (.c (.i k n)) => match op with
    | .neg => some (True, .c (.i k (k.wrap (0 - n))))
    | _ => none
  | _ => none
def qU : Option TI → Option TI → Option SV → Option (Prop × SV)
  | some _, some ⟨_, _, _, _, _, _, 1, k⟩, some (.c (.i _ n)) => some (True, .c (.i k (k.wrap n)))
  | some _, some ⟨_, _, _, _, _, _, 2, _⟩, some (.c (.s l)) => some (True, .c (.s l))
  | _, _, _ => none
def qV (f : Nat) : Option TI → Option SV → Option (Prop × SV)
  | some ⟨_, _, _, fs, _, _, 4, _⟩, some (.c (.p c o)) => match zD fs f with
    | some (_, 0, _) => none
    | some (d, _ + 1, _) => some (True, .c (.p c (o + d)))
    | none => none
  | some ⟨_, _, _, fs, _, _, 4, _⟩, some (.c (.v (.pointer (some ⟨b, o, none⟩)))) => match zD fs f with
    | some (_, 0, _) => none
    | some (d, _ + 1, _) => some (True, .c (.v (.pointer (some ⟨b, o + d, none⟩))))
    | none => none
  | _, _ => none
def qW (f : Nat) : Option TI → Option SV → Option (Prop × SV)
  | some ⟨_, _, _, fs, _, _, 4, _⟩, some (.g l) => match zD fs f with
    | some (d, sz, true) => match zB d sz l with
      | some r => some (True, .g r)
      | none => none
    | some (d, _, false) => match zD l d with
      | some x => some (True, .c x)
      | none => none
    | none => none
  | _, _ => none
def qX (en : List EN) : Option TI → Option SV → Option SV → Option (Prop × SV)
  | some ⟨_, _, _, _, _, es, 3, _⟩, some (.c (.sl c o n _)), some (.c (.i _ j)) => some (0 ≤ j ∧ j < (n : Int), .c (.p c (o + j.toNat * es)))
  | some ⟨_, _, _, _, _, es, 3, _⟩, some (.c (.rw c n)), some (.c (.i _ j)) => match zD en c with
    | some ⟨(_, off, _), _ :: _, _⟩ => some (0 ≤ j ∧ j < (n : Int) ∧ j.toNat * es = off, .c (.p c 0))
    | _ => none
  | some ⟨_, _, _, _, _, es, 3, _⟩, some (.c (.v (.slice (some ⟨b, o, none⟩) n _))), some (.c (.i _ j)) => some (0 ≤ j ∧ j < (n : Int), .c (.v (.pointer (some ⟨b, o + j.toNat * es, none⟩))))
  | _, _, _ => none
def qY : Option TI → Option SV → Option SV → Option (Prop × SV)
  | some ⟨_, _, _, _, _, _, 2, _⟩, some (.c (.s l)), some (.c (.i _ j)) => some (0 ≤ j ∧ j < (l.length : Int), .c (.i .u8 ((l.getD j.toNat 0).toNat : Int)))
  | _, _, _ => none
def qZ : Option TI → Option SV → Option Int → Option Int → Option (Prop × SV)
  | some ⟨_, _, _, _, _, _, 2, _⟩, some (.c (.s l)), some lo, some hi => some (0 ≤ lo ∧ lo ≤ hi ∧ hi ≤ (l.length : Int), .c (.s ((l.take hi.toNat).drop lo.toNat)))
  | some ⟨_, _, _, _, _, es, 3, _⟩, some (.c (.sl c o n m)), some lo, some hi => some (0 ≤ lo ∧ lo ≤ hi ∧ hi ≤ (m : Int), .c (.sl c (if m = lo.toNat then o else o + lo.toNat * es) (hi.toNat - lo.toNat) (m - lo.toNat)))
  | some ⟨_, _, _, _, _, _, 3, _⟩, some (.c (.v (.slice none n m))), some lo, some hi => some (0 ≤ lo ∧ lo ≤ hi ∧ hi ≤ (m : Int), .c (.v (.slice none (hi.toNat - lo.toNat) (m - lo.toNat))))
  | some ⟨_, _, _, _, _, es, 3, _⟩, some (.c (.v (.slice (some ⟨b, o, none⟩) n m))), some lo, some hi => some (0 ≤ lo ∧ lo ≤ hi ∧ hi ≤ (m : Int), .c (.v (.slice (some ⟨b, if m = lo.toNat then o else o + lo.toNat * es, none⟩) (hi.toNat - lo.toNat) (m - lo.toNat))))
  | _, _, _, _ => none
def qe : Option TI → Option SV → Option (Prop × SV)
  | some ⟨_, _, _, _, _, _, 2, _⟩, some (.c (.s l)) => some (True, .c (.i .i64 (l.length : Int)))
  | some ⟨_, _, _, _, _, _, 3, _⟩, some (.c (.sl _ _ n _)) => some (True, .c (.i .i64 (n : Int)))
  | some ⟨_, _, _, _, _, _, 3, _⟩, some (.c (.rw _ n)) => some (True, .c (.i .i64 (n : Int)))
  | some ⟨_, _, _, _, _, _, 3, _⟩, some (.c (.v (.slice _ n _))) => some (True, .c (.i .i64 (n : Int)))
  | _, _ => none
def qf (ev : Operand → Option SV) (ps : List (Nat × Operand)) : Option TI → Option (Prop × SV)
  | some ⟨_, _, z, fs, _, _, 4, _⟩ => match qg fs ev ps z with
    | some l => some (True, .g l)
    | none => none
  | _ => none
def qh (k : Nat) : Option SV → Option (Prop × SV)
  | some (.t l) => match zD l k with
    | some x => some (True, x.sv)
    | none => none
  | _ => none
def qj (t : TypeId) : Option TI → Option SV → Option (Prop × SV)
  | some ⟨_, _, _, _, _, _, k, _⟩, some (.c x) => if k = 8 then none else match qq x with
    | some y => some (True, .c (.v (.iface t y)))
    | none => none
  | _, _ => none
def qm : Option SV → Int
  | some (.c (.s l)) => l.length
  | some (.c (.sl _ _ n _)) => (n : Int)
  | some (.c (.v (.slice _ n _))) => (n : Int)
  | _ => 0
def qn : Option SV → Option SV → Option (Prop × SV)
  | some (.c (.i k a)), some (.c (.i _ b)) => some (True, .c (.i k (if b < a then b else a)))
  | _, _ => none
def qo : Option SV → Option SV → Option (Prop × SV)
  | some (.c (.i k a)), some (.c (.i _ b)) => some (True, .c (.i k (if a < b then b else a)))
  | _, _ => none
def qN (P : Program) (ev : Operand → Option SV) : Call → Option (Prop × SV)
  | ⟨.builtin .len, args, tys⟩ => match args.toList, tys.toList with
    | [x], [t] => qe (tiOf P t) (ev x)
    | _, _ => none
  | ⟨.builtin .min, args, _⟩ => match args.toList with
    | [x, y] => qn (ev x) (ev y)
    | _ => none
  | ⟨.builtin .max, args, _⟩ => match args.toList with
    | [x, y] => qo (ev x) (ev y)
    | _ => none
  | _ => none
def qK (P : Program) (rd : Rd) (en : List EN) (ev : Operand → Option SV) : Op → Option (Prop × SV)
  | .move x => qO (ev x)
  | .assign x => qO (ev x)
  | .pick c a b => match ev c with
    | some (.c (.b x)) => qp x (ev a) (ev b)
    | _ => none
  | .load t a => qP rd en (ev a) (tiOf P t)
  | .nilCheck x => qQ (ev x)
  | .binOp op t x y _ => qR P op t (ev x) (ev y)
  | .unOp op _ x => qT op (ev x)
  | .convert s d x => qU (tiOf P s) (tiOf P d) (ev x)
  | .fieldAddr t x f => qV f (tiOf P t) (ev x)
  | .field t x f => qW f (tiOf P t) (ev x)
  | .indexAddr t x j => qX en (tiOf P t) (ev x) (ev j)
  | .index t x j => qY (tiOf P t) (ev x) (ev j)
  | .slice t x lo hi none => qZ (tiOf P t) (ev x) (ql ev 0 lo) (ql ev (qm (ev x)) hi)
  | .build t ps => qf ev ps.toList (tiOf P t)
  | .extract x k => qh k (ev x)
  | .makeInterface t x => qj t (tiOf P t) (ev x)
  | .makeFunc fn first cap => match first.toList with
    | [] => match qk ev cap.toList with
      | some l => some (True, .c (.f fn l))
      | none => none
    | _ :: _ => none
  | .call c => qN P ev c
  | _ => none
def DEAD : Nat := 4294967295
structure HE (ρ : Nat → RE) (pr : Nat → Prop) (w : World) (c : Nat) (ty : TypeId × Nat × (RE → Prop)) (cells : List SC) (mu : Bool) : Prop where
  heap : ty.1 ≠ DEAD ∧ (ρ c).nl = none → w.heap[(ρ c).blk]? = some (.cells ((ρ c).pre ++ dens ρ cells ++ (ρ c).post).toArray ty.1 (0, 0))
  wf : wfs pr cells
  dead : ty.1 = DEAD → cells = [] ∧ mu = false
  non : (ρ c).nl ≠ none → cells = []
def Hp (ρ : Nat → RE) (pr : Nat → Prop) (en : List EN) (w : World) : Prop :=
  ∀ c ty cells mu, pr c → zD en c = some ⟨ty, cells, mu⟩ → HE ρ pr w c ty cells mu
def Ho (ρ : Nat → RE) (pr : Nat → Prop) (en : List EN) : Prop := ∀ c ty cells mu, pr c → zD en c = some ⟨ty, cells, mu⟩ → (ρ c).pre.length = ty.2.1 ∧ ty.2.2 (ρ c)
section
variable {P : Program} {en : List EN} {ev : Operand → Option SV} {rv : Operand → Value} {ρ : Nat → RE} {pr : Nat → Prop} {w : World}
theorem dens_len (l : List SC) : (dens ρ l).length = l.length := by simp [dens]
theorem Hp.cellAt (hh : Hp ρ pr en w) {c : Nat} {ty : TypeId × Nat × (RE → Prop)} {cells : List SC} {mu : Bool} (hc : pr c) (he : zD en c = some ⟨ty, cells, mu⟩) {j : Nat} {x : SC} (hx : cells[j]? = some x) :
    w.cell? ⟨(ρ c).blk, (ρ c).pre.length + j, none⟩ = some (x.den ρ) := by
  have hj := (List.getElem?_eq_some_iff.1 hx).1
  have h := (hh c ty cells mu hc he).heap ⟨fun hd => by rw [((hh c ty cells mu hc he).dead hd).1] at hj; simp at hj, Decidable.byContradiction fun hd => by rw [(hh c ty cells mu hc he).non hd] at hj; simp at hj⟩
  simp only [World.cell?, h, Option.isSome_none, Bool.false_eq_true, if_false, List.getElem?_toArray]
  rw [List.append_assoc, List.getElem?_append_right (by omega), Nat.add_sub_cancel_left, List.getElem?_append_left (by rw [dens_len]; exact hj)]
  simp [dens, hx]
theorem add_zero' (a b j : Nat) : (Addr.mk a b none).add j = ⟨a, b + j, none⟩ := by
  unfold Addr.add; split
  · rename_i h; subst h; rfl
  · rfl
theorem tiOf_some {t : TypeId} {ti : TI} (h : tiOf P t = some ti) : ∃ i d z fs e, P.info? t = some i ∧ P.underlying t = some d ∧ i.zero = some z ∧ fieldsD P d = some fs ∧ P.info? (elemD (some d)) = some e ∧
    ti = ⟨i.size, aggD (some d), z.cells.toList.map qz, fs, elemD (some d), e.size, kdD (some d), ikD (some d)⟩ := by
  unfold tiOf at h
  split at h
  · cases h
  split at h
  · rename_i i d h1 h2
    split at h
    · rename_i z fs e h3 h4 h5
      exact ⟨i, d, z, fs, e, h1, h2, h3, h4, h5, by simpa using h.symm⟩
    · cases h
  · cases h
theorem run_sizeOf {t : TypeId} {i : TypeInfo} (h : P.info? t = some i) : (sizeOf t).run P w = .ok i.size w := by simp [sizeOf, typeInfo, h]
theorem run_isAgg {t : TypeId} {d : TypeDesc} (h : P.underlying t = some d) : (isAgg t).run P w = .ok (aggD (some d)) w := by
  cases d <;> simp [isAgg, underlying, h, aggD]
theorem run_und {t : TypeId} {d : TypeDesc} (h : P.underlying t = some d) : (underlying t).run P w = .ok d w := by simp [underlying, h]
def RdOk (rd : Rd) (w : World) : Prop := ∀ b o n l, rd b o n = some l → ∃ vs : List Value, vs.length = n ∧ l = vs.map qz ∧ ∀ (j : Nat) v, vs[j]? = some v → w.cell? ⟨b, o + j, none⟩ = some v
theorem noRd_ok (w : World) : RdOk noRd w := fun _ _ _ _ h => by cases h
theorem load_ok {rd : Rd} {t : TypeId} {a : SV} {p : Prop} {v : SV} (h : qP rd en (some a) (tiOf P t) = some (p, v)) (ha : a.wf pr) (hrd : RdOk rd w) (hh : Hp ρ pr en w) : (Instr.loadAt t (a.den ρ)).run P w = .ok (v.den ρ) w ∧ v.wf pr := by
  cases hti : tiOf P t with
  | none => rw [hti] at h; cases a with | c x => cases x <;> simp [qP] at h | _ => simp [qP] at h
  | some ti =>
    rw [hti] at h
    obtain ⟨i, d, z, fs, _, h1, h2, h3, h4, _, rfl⟩ := tiOf_some hti
    have hag := run_isAgg (P := P) (w := w) h2
    cases a with
    | g l => simp [qP] at h
    | t l => simp [qP] at h
    | c x =>
      cases x <;> try (simp [qP] at h; done)
      case v q =>
        cases hb : aggD (some d) with
        | true =>
          rw [hb] at h hag
          unfold qP at h
          split at h <;> try cases h
          · rename_i b o sz _ _ _ _ _ _ hq hs
            split at h <;> try cases h
            rename_i l hl
            obtain ⟨vs, v1, rfl, v3⟩ := hrd _ _ _ _ hl
            cases hq
            simp only [Option.some.injEq, TI.mk.injEq] at hs
            obtain ⟨rfl, _⟩ := hs
            refine ⟨?_, fun y hy => by obtain ⟨z, _, rfl⟩ := List.mem_map.1 hy; exact ofVal_wf _ _⟩
            have hden : dens ρ (vs.map qz) = vs := by
              unfold dens; rw [List.map_map]
              conv => rhs; rw [← List.map_id vs]
              exact List.map_congr_left fun z _ => ofVal_den ρ z
            have hload := run_loadCells_list (P := P) w ⟨b, o, none⟩ vs (fun j u hj => by rw [add_zero']; exact v3 j u hj)
            rw [v1] at hload
            simp [Instr.loadAt, Instr.sureAddr, loadVar, SV.den, SC.den, hag, run_sizeOf h1, hload, hden]
          · rename_i hs; simp at hs
          · rename_i hq _; cases hq
          · rename_i hq _; cases hq
        | false =>
          rw [hb] at h hag
          unfold qP at h
          split at h <;> try cases h
          · rename_i hs; simp at hs
          · rename_i b o _ _ _ _ _ _ _ hq hs
            split at h <;> try cases h
            rename_i x hl
            obtain ⟨vs, v1, v2, v3⟩ := hrd _ _ _ _ hl
            cases hq
            cases vs with
            | nil => simp at v1
            | cons z r =>
              simp only [List.map_cons, List.cons.injEq] at v2
              obtain ⟨rfl, _⟩ := v2
              have hc := v3 0 z rfl
              rw [Nat.add_zero] at hc
              refine ⟨?_, ofVal_wf _ _⟩
              have hd : (qz z).den ρ = z := ofVal_den ρ z
              simp only [SV.den, hd]
              simp [Instr.loadAt, Instr.sureAddr, loadVar, SC.den, hag, load, Sem.run, hc]
          · rename_i hq _; cases hq
          · rename_i hq _; cases hq
      rename_i c o
      have hc : pr c := ha
      cases hb : aggD (some d) with
      | true =>
        rw [hb] at h hag
        simp only [qP] at h
        split at h <;> try cases h
        rename_i ty cells mu he
        split at h <;> try cases h
        rename_i l hl
        obtain ⟨hl1, hl2⟩ := takeAt_some hl
        refine ⟨?_, fun y hy => (hh c ty cells mu hc he).wf y (by rw [hl1] at hy; exact List.mem_of_mem_drop (List.mem_of_mem_take hy))⟩
        have hlen : (dens ρ l).length = i.size := by rw [dens_len, hl1, List.length_take, List.length_drop]; omega
        have hload := run_loadCells_list (P := P) w ⟨(ρ c).blk, (ρ c).pre.length + o, none⟩ (dens ρ l) (fun j u hj => by
          rw [add_zero', Nat.add_assoc]
          have hx : ∃ y, l[j]? = some y ∧ u = y.den ρ := by
            simp only [dens, List.getElem?_map, Option.map_eq_some_iff] at hj
            obtain ⟨y, hy, rfl⟩ := hj
            exact ⟨y, hy, rfl⟩
          obtain ⟨y, hy, rfl⟩ := hx
          refine hh.cellAt hc he ?_
          have hj2 : j < i.size := by rw [← hlen, dens_len]; exact (List.getElem?_eq_some_iff.1 hy).1
          rw [hl1, List.getElem?_take, if_pos hj2, List.getElem?_drop] at hy
          exact hy)
        rw [hlen] at hload
        simp [Instr.loadAt, Instr.sureAddr, loadVar, SV.den, SC.den, ptrOf, hag, run_sizeOf h1, hload]
      | false =>
        rw [hb] at h hag
        simp only [qP] at h
        split at h <;> try cases h
        rename_i ty cells mu he
        split at h <;> try cases h
        rename_i x hx
        rw [nthS_eq] at hx
        refine ⟨?_, (hh c ty cells mu hc he).wf x (List.mem_of_getElem? hx)⟩
        simp [Instr.loadAt, Instr.sureAddr, loadVar, SV.den, SC.den, ptrOf, hag, load, Sem.run, hh.cellAt hc he hx]
theorem bin_ok {op : BinOp} {t t' : TypeId} {x y z : SC} {p : Prop} (h : qS op x y = some (p, z)) (hp : p) (X Y : Operand) (o : Oper) (ho : o.op = .binOp op t X Y t') (hX : rv X = x.den ρ) (hY : rv Y = y.den ρ) :
    (execOp rv o).run P w = .ok (.value (z.den ρ)) w ∧ z.wf pr := by
  unfold qS at h
  split at h <;> simp only [Option.some.injEq, Prod.mk.injEq, reduceCtorEq] at h <;> obtain ⟨rfl, rfl⟩ := h
  all_goals refine ⟨?_, trivial⟩
  all_goals simp only [execOp, ho, hX, hY, SC.den]
  all_goals first
    | (subst hp; simp [eqGuard, binOp, Op.intArith, Op.intCmp]; done)
    | (have hp' : ¬ (_ : Int) < 0 := Int.not_lt.2 hp; simp [eqGuard, binOp, Op.shift, hp', shlZ, shrZ]; done)
    | (subst hp; simp [eqGuard, binOp, Op.intBits, andZ, orZ, xorZ]; done)
    | (obtain ⟨rfl, hne⟩ := hp; simp [eqGuard, binOp, Op.intDiv, hne]; done)
    | (simp [eqGuard, binOp, Op.stringOp]; done)
    | skip
  rename_i a b
  have hsz : ¬ (((ByteArray.mk a.toArray).size + (ByteArray.mk b.toArray).size : Nat) : Int) > IntKind.i64.max := by
    have : (ByteArray.mk a.toArray).size = a.length := by simp [ByteArray.size]
    have : (ByteArray.mk b.toArray).size = b.length := by simp [ByteArray.size]
    have : IntKind.i64.max = 9223372036854775807 := by decide
    omega
  have happ : (ByteArray.mk a.toArray) ++ (ByteArray.mk b.toArray) = ⟨(a ++ b).toArray⟩ := by
    apply ByteArray.ext
    simp [ByteArray.data_append]
  simp only [eqGuard, binOp, Op.stringOp, if_neg hsz, happ]
  simp
theorem binV_ok {op : BinOp} {t t' : TypeId} {x y : Option SV} {v : SV} {p : Prop} (h : qR P op t x y = some (p, v)) (hp : p) (X Y : Operand) (o : Oper) (ho : o.op = .binOp op t X Y t')
    (hX : ∀ u, x = some u → rv X = u.den ρ) (hY : ∀ u, y = some u → rv Y = u.den ρ) : (execOp rv o).run P w = .ok (.value (v.den ρ)) w ∧ v.wf pr := by
  unfold qR at h
  split at h <;> try cases h
  · rename_i la lb
    have e1 := hX _ rfl
    have e2 := hY _ rfl
    split at h <;> simp only [Option.some.injEq, Prod.mk.injEq, reduceCtorEq] at h
    · obtain ⟨rfl, rfl⟩ := h
      exact ⟨by simp [execOp, ho, e1, e2, SV.den, SC.den, eqGuard, binOp, hp.1, hp.2], trivial⟩
    · obtain ⟨rfl, rfl⟩ := h
      exact ⟨by simp [execOp, ho, e1, e2, SV.den, SC.den, eqGuard, binOp, hp.1, hp.2], trivial⟩
  · rename_i a b
    have e1 := hX _ rfl
    have e2 := hY _ rfl
    have he : p → P.underlying t = some .bool → (Op.equal t (.bool a) (.bool b)).run P w = .ok (a == b) w := fun _ ht => by
      have hu : (underlying t).run P w = .ok .bool w := by simp [underlying, ht]
      unfold Op.equal Op.maxDepth
      rw [Op.equalIn]
      simp [hu]
    split at h <;> simp only [Option.some.injEq, Prod.mk.injEq, reduceCtorEq] at h
    · obtain ⟨rfl, rfl⟩ := h
      have he := he hp hp
      exact ⟨by simp [execOp, ho, e1, e2, SV.den, SC.den, eqGuard, binOp, he], trivial⟩
    · obtain ⟨rfl, rfl⟩ := h
      have he := he hp hp
      exact ⟨by simp [execOp, ho, e1, e2, SV.den, SC.den, eqGuard, binOp, he], trivial⟩
  · have e1 := hX _ rfl
    have e2 := hY _ rfl
    have he : (∃ e, P.underlying t = some (.pointer e)) → ∀ a, (Op.equal t (.pointer (some a)) (.pointer none)).run P w = .ok false w := fun ⟨e, ht⟩ a => by
      have hu : (underlying t).run P w = .ok (.pointer e) w := by simp [underlying, ht]
      unfold Op.equal Op.maxDepth
      rw [Op.equalIn]
      simp [hu]
    split at h <;> simp only [Option.some.injEq, Prod.mk.injEq, reduceCtorEq] at h
    · obtain ⟨rfl, rfl⟩ := h
      have he := he hp
      exact ⟨by simp [execOp, ho, e1, e2, SV.den, SC.den, ptrOf, eqGuard, binOp, he], trivial⟩
    · obtain ⟨rfl, rfl⟩ := h
      have he := he hp
      exact ⟨by simp [execOp, ho, e1, e2, SV.den, SC.den, ptrOf, eqGuard, binOp, he], trivial⟩
  · have e1 := hX _ rfl
    have e2 := hY _ rfl
    have he : (∃ e, P.underlying t = some (.pointer e)) → (Op.equal t (.pointer none) (.pointer none)).run P w = .ok true w := fun ⟨e, ht⟩ => by
      have hu : (underlying t).run P w = .ok (.pointer e) w := by simp [underlying, ht]
      unfold Op.equal Op.maxDepth
      rw [Op.equalIn]
      simp [hu]
    split at h <;> simp only [Option.some.injEq, Prod.mk.injEq, reduceCtorEq] at h
    · obtain ⟨rfl, rfl⟩ := h
      have he := he hp
      exact ⟨by simp [execOp, ho, e1, e2, SV.den, SC.den, eqGuard, binOp, he], trivial⟩
    · obtain ⟨rfl, rfl⟩ := h
      have he := he hp
      exact ⟨by simp [execOp, ho, e1, e2, SV.den, SC.den, eqGuard, binOp, he], trivial⟩
  · split at h <;> simp only [Option.some.injEq, Prod.mk.injEq, reduceCtorEq] at h
    rename_i q z hz
    obtain ⟨rfl, rfl⟩ := h
    exact bin_ok hz hp X Y o ho (hX _ rfl) (hY _ rfl)
theorem un_ok {op : UnOp} {x : SV} {v : SV} {p : Prop} (h : qT op (some x) = some (p, v)) : (Op.unary op (x.den ρ)).run P w = .ok (v.den ρ) w ∧ v.wf pr := by
  unfold qT at h
  split at h <;> try cases h
  · rename_i b hb
    cases hb
    cases op <;> simp only [Option.some.injEq, Prod.mk.injEq, reduceCtorEq] at h
    obtain ⟨_, rfl⟩ := h
    exact ⟨by simp [Op.unary, SV.den, SC.den], trivial⟩
  · rename_i k n hb
    cases hb
    cases op <;> simp only [Option.some.injEq, Prod.mk.injEq, reduceCtorEq] at h
    obtain ⟨_, rfl⟩ := h
    exact ⟨by simp [Op.unary, Op.intArith, SV.den, SC.den], trivial⟩
theorem kd_int {d : TypeDesc} (h : kdD (some d) = 1) : ∃ k, d = .int k := by cases d <;> simp_all [kdD]
theorem kd_str {d : TypeDesc} (h : kdD (some d) = 2) : d = .string := by cases d <;> simp_all [kdD]
theorem kd_slice {d : TypeDesc} (h : kdD (some d) = 3) : ∃ e, d = .slice e := by cases d <;> simp_all [kdD]
theorem kd_struct {d : TypeDesc} (h : kdD (some d) = 4) : ∃ fs, d = .struct fs := by cases d <;> simp_all [kdD]
theorem conv_ok {s t : TypeId} {x v : SV} {p : Prop} (h : qU (tiOf P s) (tiOf P t) (some x) = some (p, v)) : (convert s t (x.den ρ)).run P w = .ok (v.den ρ) w ∧ v.wf pr := by
  cases hs : tiOf P s with
  | none => rw [hs] at h; simp [qU] at h
  | some si =>
    cases ht : tiOf P t with
    | none => rw [hs, ht] at h; simp [qU] at h
    | some ti =>
      rw [hs, ht] at h
      obtain ⟨_, ds, _, _, _, _, hus, _, _, _, rfl⟩ := tiOf_some hs
      obtain ⟨_, dt, _, _, _, _, hut, _, _, _, rfl⟩ := tiOf_some ht
      unfold qU at h
      split at h <;> try cases h
      · rename_i k n h1 h2 h3
        cases h3
        simp only [Option.some.injEq, TI.mk.injEq] at h2
        obtain ⟨_, _, _, _, _, _, hk, rfl⟩ := h2
        obtain ⟨k', rfl⟩ := kd_int hk
        refine ⟨?_, trivial⟩
        cases ds <;> simp [convert, run_und hus, run_und hut, SV.den, SC.den, Conv.intToInt, ikD]
      · rename_i l h1 h2 h3
        cases h3
        simp only [Option.some.injEq, TI.mk.injEq] at h2
        obtain ⟨_, _, _, _, _, _, hk, _⟩ := h2
        obtain rfl := kd_str hk
        refine ⟨?_, trivial⟩
        cases ds <;> simp [convert, run_und hus, run_und hut, SV.den, SC.den]
theorem fieldD_some {f : Field} {d sz : Nat} {ag : Bool} (h : fieldD P f = some (d, sz, ag)) : ∃ i e, P.info? f.type = some i ∧ P.underlying f.type = some e ∧ d = f.offset ∧ sz = i.size ∧ ag = aggD (some e) := by
  unfold fieldD at h
  split at h
  · rename_i i e h1 h2
    simp only [Option.some.injEq, Prod.mk.injEq] at h
    exact ⟨i, e, h1, h2, h.1.symm, h.2.1.symm, h.2.2.symm⟩
  · cases h
theorem fieldsD_get : ∀ {l : List Field} {r : List (Nat × Nat × Bool)}, l.mapM (fieldD P) = some r → ∀ (j : Nat) (y : Nat × Nat × Bool), r[j]? = some y → ∃ f, l[j]? = some f ∧ fieldD P f = some y
  | [], r, h, j, y, hy => by simp at h; subst h; simp at hy
  | f :: l, r, h, j, y, hy => by
    simp only [List.mapM_cons, Option.bind_eq_bind, Option.pure_def] at h
    cases h1 : fieldD P f with
    | none => simp [h1] at h
    | some q =>
      cases h2 : l.mapM (fieldD P) with
      | none => simp [h1, h2] at h
      | some r' =>
        simp [h1, h2] at h
        subst h
        cases j with
        | zero => simp at hy; subst hy; exact ⟨f, rfl, h1⟩
        | succ j => exact fieldsD_get h2 j y (by simpa using hy)
theorem fieldsD_places : ∀ {l : List Field} {r : List (Nat × Nat × Bool)}, l.mapM (fieldD P) = some r → l.mapM (fun f => (P.info? f.type).map fun i => (f.offset, i.size)) = some (r.map fun y => (y.1, y.2.1))
  | [], r, h => by simp at h; subst h; simp
  | f :: l, r, h => by
    simp only [List.mapM_cons, Option.bind_eq_bind, Option.pure_def] at h ⊢
    cases h1 : fieldD P f with
    | none => simp [h1] at h
    | some q =>
      obtain ⟨d, sz, ag⟩ := q
      cases h2 : l.mapM (fieldD P) with
      | none => simp [h1, h2] at h
      | some r' =>
        simp [h1, h2] at h
        subst h
        obtain ⟨i, e, hi, _, rfl, rfl, _⟩ := fieldD_some h1
        rw [fieldsD_places h2]
        simp [hi]
theorem fa_ok {t : TypeId} {x v : SV} {f : Nat} {p : Prop} (h : qV f (tiOf P t) (some x) = some (p, v)) (hx : x.wf pr) : (Instr.fieldAt t (x.den ρ) f).run P w = .ok (v.den ρ) w ∧ v.wf pr := by
  cases ht : tiOf P t with
  | none => rw [ht] at h; simp [qV] at h
  | some ti =>
    rw [ht] at h
    obtain ⟨_, d, _, fs, ei, _, hu, _, hfs, hei, rfl⟩ := tiOf_some ht
    unfold qV at h
    split at h <;> try cases h
    · rename_i c o h1 h2
      cases h2
      simp only [Option.some.injEq, TI.mk.injEq] at h1
      obtain ⟨_, _, _, rfl, _, _, hk, _⟩ := h1
      obtain ⟨fl, rfl⟩ := kd_struct hk
      split at h <;> try cases h
      rename_i d sz ag hn
      rw [nthS_eq] at hn
      obtain ⟨g, hg, hgd⟩ := fieldsD_get (l := fl.toList) hfs f _ hn
      obtain ⟨i, e, hi, _, rfl, hsz, _⟩ := fieldD_some hgd
      have hg' : fl[f]? = some g := by simpa using hg
      refine ⟨?_, hx⟩
      simp [Instr.fieldAt, run_und hu, hg', SV.den, SC.den, ptrOf, Instr.sureAddr, fieldPlace, run_sizeOf hi, ← hsz, add_zero', Nat.add_assoc]
    · rename_i b o h1 h2
      cases h2
      simp only [Option.some.injEq, TI.mk.injEq] at h1
      obtain ⟨_, _, _, rfl, _, _, hk, _⟩ := h1
      obtain ⟨fl, rfl⟩ := kd_struct hk
      split at h <;> try cases h
      rename_i d sz ag hn
      rw [nthS_eq] at hn
      obtain ⟨g, hg, hgd⟩ := fieldsD_get (l := fl.toList) hfs f _ hn
      obtain ⟨i, e, hi, _, rfl, hsz, _⟩ := fieldD_some hgd
      have hg' : fl[f]? = some g := by simpa using hg
      refine ⟨?_, trivial⟩
      simp [Instr.fieldAt, run_und hu, hg', SV.den, SC.den, Instr.sureAddr, fieldPlace, run_sizeOf hi, ← hsz, add_zero', Nat.add_assoc]
theorem fld_ok {t : TypeId} {x v : SV} {f : Nat} {p : Prop} (h : qW f (tiOf P t) (some x) = some (p, v)) (hx : x.wf pr) : (Instr.field t (x.den ρ) f).run P w = .ok (v.den ρ) w ∧ v.wf pr := by
  cases ht : tiOf P t with
  | none => rw [ht] at h; simp [qW] at h
  | some ti =>
    rw [ht] at h
    obtain ⟨_, d, _, fs, ei, _, hu, _, hfs, hei, rfl⟩ := tiOf_some ht
    unfold qW at h
    split at h <;> try cases h
    rename_i l h1 h2
    cases h2
    simp only [Option.some.injEq, TI.mk.injEq] at h1
    obtain ⟨_, _, _, rfl, _, _, hk, _⟩ := h1
    obtain ⟨fl, rfl⟩ := kd_struct hk
    split at h <;> try cases h
    · rename_i d sz hn
      rw [nthS_eq] at hn
      obtain ⟨g, hg, hgd⟩ := fieldsD_get (l := fl.toList) hfs f _ hn
      obtain ⟨i, e, hi, hue, rfl, rfl, hag⟩ := fieldD_some hgd
      have hg' : fl[f]? = some g := by simpa using hg
      split at h <;> simp only [Option.some.injEq, Prod.mk.injEq, reduceCtorEq] at h
      rename_i r hr
      obtain ⟨_, rfl⟩ := h
      obtain ⟨hr1, hr2⟩ := takeAt_some hr
      refine ⟨?_, fun y hy => hx y (by rw [hr1] at hy; exact List.mem_of_mem_drop (List.mem_of_mem_take hy))⟩
      have hia := run_isAgg (P := P) (w := w) hue
      rw [← hag] at hia
      simp [Instr.field, run_und hu, hg', SV.den, asAgg, part, hia, run_sizeOf hi, dens, hr1, List.map_take, List.map_drop]
    · rename_i d sz hn
      rw [nthS_eq] at hn
      obtain ⟨g, hg, hgd⟩ := fieldsD_get (l := fl.toList) hfs f _ hn
      obtain ⟨i, e, hi, hue, rfl, rfl, hag⟩ := fieldD_some hgd
      have hg' : fl[f]? = some g := by simpa using hg
      split at h <;> simp only [Option.some.injEq, Prod.mk.injEq, reduceCtorEq] at h
      rename_i y hy
      obtain ⟨_, rfl⟩ := h
      rw [nthS_eq] at hy
      refine ⟨?_, hx y (List.mem_of_getElem? hy)⟩
      have hia := run_isAgg (P := P) (w := w) hue
      rw [← hag] at hia
      simp [Instr.field, run_und hu, hg', SV.den, asAgg, part, hia, dens, hy]
theorem ia_ok {t : TypeId} {x y v : SV} {p : Prop} (h : qX en (tiOf P t) (some x) (some y) = some (p, v)) (hp : p) (hx : x.wf pr) (hh : Hp ρ pr en w) (hho : Ho ρ pr en) :
    (Instr.indexAt t (x.den ρ) (y.den ρ)).run P w = .ok (v.den ρ) w ∧ v.wf pr := by
  cases ht : tiOf P t with
  | none => rw [ht] at h; simp [qX] at h
  | some ti =>
    rw [ht] at h
    obtain ⟨_, d, _, fs, ei, _, hu, _, hfs, hei, rfl⟩ := tiOf_some ht
    unfold qX at h
    split at h
    · rename_i c o n m k j h1 h2 h3
      simp only [Option.some.injEq, Prod.mk.injEq] at h
      obtain ⟨rfl, rfl⟩ := h
      cases h2; cases h3
      simp only [Option.some.injEq, TI.mk.injEq] at h1
      obtain ⟨_, _, _, _, _, rfl, hk, _⟩ := h1
      refine ⟨?_, hx⟩
      obtain ⟨e, rfl⟩ := kd_slice hk
      have hs : (sizeOf e).run P w = .ok ei.size w := run_sizeOf hei
      simp [Instr.indexAt, run_und hu, SV.den, SC.den, ptrOf, asIntOf, hp.1, hp.2, hs, add_zero', Nat.add_assoc]
    · rename_i c n k j h1 h2 h3
      cases h2; cases h3
      simp only [Option.some.injEq, TI.mk.injEq] at h1
      obtain ⟨_, _, _, _, _, rfl, hk, _⟩ := h1
      split at h <;> simp only [Option.some.injEq, Prod.mk.injEq, reduceCtorEq] at h
      rename_i ty off iv c0 cs mu he
      obtain ⟨rfl, rfl⟩ := h
      refine ⟨?_, hx⟩
      have hon : (ρ c).nl = none := Decidable.byContradiction fun hd => by have := (hh c _ _ _ hx he).non hd; cases this
      obtain ⟨e, rfl⟩ := kd_slice hk
      have hs : (sizeOf e).run P w = .ok ei.size w := run_sizeOf hei
      have ho := (hho c _ _ _ hx he).1
      simp only at ho
      obtain ⟨p1, p2, p3⟩ := hp
      simp [Instr.indexAt, run_und hu, SV.den, SC.den, ptrOf, asIntOf, rwOf_on hon, p1, p2, hs, add_zero', p3, ho]
    · rename_i b o n m k j h1 h2 h3
      simp only [Option.some.injEq, Prod.mk.injEq] at h
      obtain ⟨rfl, rfl⟩ := h
      cases h2; cases h3
      simp only [Option.some.injEq, TI.mk.injEq] at h1
      obtain ⟨_, _, _, _, _, rfl, hk, _⟩ := h1
      refine ⟨?_, trivial⟩
      obtain ⟨e, rfl⟩ := kd_slice hk
      have hs : (sizeOf e).run P w = .ok ei.size w := run_sizeOf hei
      simp [Instr.indexAt, run_und hu, SV.den, SC.den, asIntOf, hp.1, hp.2, hs, add_zero']
    · cases h
theorem bs_size (l : List UInt8) : (ByteArray.mk l.toArray).size = l.length := by simp [ByteArray.size]
theorem ix_ok {t : TypeId} {x y v : SV} {p : Prop} (h : qY (tiOf P t) (some x) (some y) = some (p, v)) (hp : p) :
    (Instr.index t (x.den ρ) (y.den ρ)).run P w = .ok (v.den ρ) w ∧ v.wf pr := by
  cases ht : tiOf P t with
  | none => rw [ht] at h; simp [qY] at h
  | some ti =>
    rw [ht] at h
    obtain ⟨_, d, _, fs, ei, _, hu, _, hfs, hei, rfl⟩ := tiOf_some ht
    unfold qY at h
    split at h <;> try cases h
    rename_i l k j h1 h2 h3
    cases h2; cases h3
    simp only [Option.some.injEq, TI.mk.injEq] at h1
    obtain ⟨_, _, _, _, _, _, hk, _⟩ := h1
    obtain rfl := kd_str hk
    refine ⟨?_, trivial⟩
    have hj : j.toNat < l.length := by omega
    have hb : (ByteArray.mk l.toArray)[j.toNat]? = some (l[j.toNat]'hj) := by
      rw [getElem?_pos _ _ (by rw [bs_size]; exact hj)]
      rfl
    simp [Instr.index, run_und hu, SV.den, SC.den, asIntOf, hp.1, hb, hj]
theorem bs_extract (l : List UInt8) (a b : Nat) : (ByteArray.mk l.toArray).extract a b = ⟨((l.take b).drop a).toArray⟩ := by
  apply ByteArray.ext
  apply Array.toList_inj.1
  simp [ByteArray.data_extract, List.drop_take]
theorem slice_runs {t e : TypeId} {size : Nat} {lo hi : Option Operand} (hu : P.underlying t = some (.slice e)) (hs : (sizeOf e).run P w = .ok size w) (ad : Addr) (n m : Nat) (a b : Int) (hp : 0 ≤ a ∧ a ≤ b ∧ b ≤ (m : Int))
    (hl : (lo = none ∧ a = 0) ∨ ∃ x k, lo = some x ∧ rv x = .int k a) (hh : (hi = none ∧ b = (n : Int)) ∨ ∃ x k, hi = some x ∧ rv x = .int k b) :
    (Instr.sliceAt t (.slice (some ad) n m) (lo.map rv) (hi.map rv) none).run P w = .ok (.slice (some (if m = a.toNat then ad else ad.add (a.toNat * size))) (b.toNat - a.toNat) (m - a.toNat)) w := by
  obtain ⟨p1, p2, p3⟩ := hp
  obtain ⟨a', rfl⟩ := Int.eq_ofNat_of_zero_le p1
  obtain ⟨b', rfl⟩ := Int.eq_ofNat_of_zero_le (Int.le_trans p1 p2)
  have p2' : a' ≤ b' := by omega
  have p3' : b' ≤ m := by omega
  have e1 : Option.map (fun x : Addr => x.add (a' * size)) (some ad) = some (ad.add (a' * size)) := rfl
  have e2 : (if m = a' then some ad else some (ad.add (a' * size))) = some (if m = a' then ad else ad.add (a' * size)) := by split <;> rfl
  rcases hl with ⟨rfl, ha⟩ | ⟨x, k, rfl, hx⟩ <;> rcases hh with ⟨rfl, hb⟩ | ⟨y, k', rfl, hy⟩
  · obtain rfl : a' = 0 := by omega
    obtain rfl : b' = n := by omega
    simp [Instr.sliceAt, Instr.slice, run_und hu, Instr.sliceBounds, hs]
    split <;> rfl
  · obtain rfl : a' = 0 := by omega
    simp [Instr.sliceAt, Instr.slice, run_und hu, Instr.sliceBounds, Instr.sliceBound, asIntOf, hy, hs, p3']
    split <;> rfl
  · obtain rfl : b' = n := by omega
    simp [Instr.sliceAt, Instr.slice, run_und hu, Instr.sliceBounds, Instr.sliceBound, asIntOf, hx, hs, e2, p2']
  · simp [Instr.sliceAt, Instr.slice, run_und hu, Instr.sliceBounds, Instr.sliceBound, asIntOf, hx, hy, hs, e2, p2', p3']
theorem slice_runs0 {t e : TypeId} {size : Nat} {lo hi : Option Operand} (hu : P.underlying t = some (.slice e)) (hs : (sizeOf e).run P w = .ok size w) (n m : Nat) (a b : Int) (hp : 0 ≤ a ∧ a ≤ b ∧ b ≤ (m : Int))
    (hl : (lo = none ∧ a = 0) ∨ ∃ x k, lo = some x ∧ rv x = .int k a) (hh : (hi = none ∧ b = (n : Int)) ∨ ∃ x k, hi = some x ∧ rv x = .int k b) :
    (Instr.sliceAt t (.slice none n m) (lo.map rv) (hi.map rv) none).run P w = .ok (.slice none (b.toNat - a.toNat) (m - a.toNat)) w := by
  obtain ⟨p1, p2, p3⟩ := hp
  obtain ⟨a', rfl⟩ := Int.eq_ofNat_of_zero_le p1
  obtain ⟨b', rfl⟩ := Int.eq_ofNat_of_zero_le (Int.le_trans p1 p2)
  have p2' : a' ≤ b' := by omega
  have p3' : b' ≤ m := by omega
  rcases hl with ⟨rfl, ha⟩ | ⟨x, k, rfl, hx⟩ <;> rcases hh with ⟨rfl, hb⟩ | ⟨y, k', rfl, hy⟩
  · obtain rfl : a' = 0 := by omega
    obtain rfl : b' = n := by omega
    simp [Instr.sliceAt, Instr.slice, run_und hu, Instr.sliceBounds, hs]
  · obtain rfl : a' = 0 := by omega
    simp [Instr.sliceAt, Instr.slice, run_und hu, Instr.sliceBounds, Instr.sliceBound, asIntOf, hy, hs, p3']
  · obtain rfl : b' = n := by omega
    simp [Instr.sliceAt, Instr.slice, run_und hu, Instr.sliceBounds, Instr.sliceBound, asIntOf, hx, hs, p2']
  · simp [Instr.sliceAt, Instr.slice, run_und hu, Instr.sliceBounds, Instr.sliceBound, asIntOf, hx, hy, hs, p2', p3']
theorem sl_ok {t : TypeId} {x v : SV} {lo hi : Option Operand} {p : Prop} (h : qZ (tiOf P t) (some x) (ql ev 0 lo) (ql ev (qm (some x)) hi) = some (p, v)) (hp : p)
    (hx : x.wf pr) (hev : ∀ x u, ev x = some u → rv x = u.den ρ ∧ u.wf pr) : (Instr.sliceAt t (x.den ρ) (lo.map rv) (hi.map rv) none).run P w = .ok (v.den ρ) w ∧ v.wf pr := by
  cases ht : tiOf P t with
  | none => rw [ht] at h; simp [qZ] at h
  | some ti =>
    rw [ht] at h
    obtain ⟨_, d, _, fs, ei, _, hu, _, hfs, hei, rfl⟩ := tiOf_some ht
    unfold qZ at h
    have hlo : ∀ (o : Option Operand) (d q : Int), ql ev d o = some q → (o = none ∧ q = d) ∨ ∃ x k, o = some x ∧ rv x = .int k q := by
      intro o d q hq
      cases o with
      | none => left; simp [ql] at hq; exact ⟨rfl, hq.symm⟩
      | some x =>
        right
        simp only [ql] at hq
        split at hq <;> simp only [Option.some.injEq, reduceCtorEq] at hq
        rename_i k n hx
        subst hq
        exact ⟨x, k, rfl, (hev _ _ hx).1⟩
    split at h <;> try cases h
    · rename_i l a b h1 h2 h3 h4
      cases h2
      simp only [Option.some.injEq, TI.mk.injEq] at h1
      obtain ⟨_, _, _, _, _, _, hk, _⟩ := h1
      obtain rfl := kd_str hk
      refine ⟨?_, trivial⟩
      obtain ⟨p1, p2, p3⟩ := hp
      rcases hlo lo 0 a h3 with ⟨rfl, rfl⟩ | ⟨x, k, rfl, hx⟩ <;> rcases hlo hi _ b h4 with ⟨rfl, hb⟩ | ⟨y, k', rfl, hy⟩
      · simp only [qm] at hb
        subst hb
        have he := bs_extract l 0 l.length
        rw [List.take_length] at he
        have : ByteArray.extract ⟨l.toArray⟩ 0 (ByteArray.mk l.toArray).size = ⟨l.toArray⟩ := by rw [bs_size]; simpa using he
        simp [Instr.sliceAt, Instr.slice, run_und hu, SV.den, SC.den, Instr.sliceBounds]
      · have hbn : b ≤ ((ByteArray.mk l.toArray).size : Int) := by rw [bs_size]; exact p3
        simp [Instr.sliceAt, Instr.slice, run_und hu, SV.den, SC.den, Instr.sliceBounds, Instr.sliceBound, asIntOf, bs_extract, hy, p2, hbn]
      · simp only [qm] at hb
        subst hb
        simp [Instr.sliceAt, Instr.slice, run_und hu, SV.den, SC.den, Instr.sliceBounds, Instr.sliceBound, asIntOf, bs_extract, hx, p1, p2, bs_size]
      · have hbn : b ≤ ((ByteArray.mk l.toArray).size : Int) := by rw [bs_size]; exact p3
        obtain ⟨n, rfl⟩ := Int.eq_ofNat_of_zero_le (show 0 ≤ b by omega)
        have hbn : n ≤ l.length := by omega
        simp [Instr.sliceAt, Instr.slice, run_und hu, SV.den, SC.den, Instr.sliceBounds, Instr.sliceBound, asIntOf, bs_size, bs_extract, hx, hy, p1, p2, hbn]
    · rename_i c o n m a b h1 h2 h3 h4
      cases h2
      simp only [Option.some.injEq, TI.mk.injEq] at h1
      obtain ⟨_, _, _, _, _, rfl, hk, _⟩ := h1
      obtain ⟨e, rfl⟩ := kd_slice hk
      refine ⟨?_, hx⟩
      have hs : (sizeOf e).run P w = .ok ei.size w := run_sizeOf hei
      have hr := slice_runs (P := P) (w := w) (rv := rv) (lo := lo) (hi := hi) hu hs ⟨(ρ c).blk, (ρ c).pre.length + o, none⟩ n m a b hp (hlo lo 0 a h3) (hlo hi n b h4)
      simp only [SV.den, SC.den]
      rw [hr]
      congr 4
      split <;> simp [add_zero', Nat.add_assoc]
    · rename_i n m a b h1 h2 h3 h4
      cases h2
      simp only [Option.some.injEq, TI.mk.injEq] at h1
      obtain ⟨_, _, _, _, _, rfl, hk, _⟩ := h1
      obtain ⟨e, rfl⟩ := kd_slice hk
      have hs : (sizeOf e).run P w = .ok ei.size w := run_sizeOf hei
      exact ⟨slice_runs0 (P := P) (w := w) (rv := rv) (lo := lo) (hi := hi) hu hs n m a b hp (hlo lo 0 a h3) (hlo hi n b h4), trivial⟩
    · rename_i bk o n m a b h1 h2 h3 h4
      cases h2
      simp only [Option.some.injEq, TI.mk.injEq] at h1
      obtain ⟨_, _, _, _, _, rfl, hk, _⟩ := h1
      obtain ⟨e, rfl⟩ := kd_slice hk
      refine ⟨?_, trivial⟩
      have hs : (sizeOf e).run P w = .ok ei.size w := run_sizeOf hei
      have hr := slice_runs (P := P) (w := w) (rv := rv) (lo := lo) (hi := hi) hu hs ⟨bk, o, none⟩ n m a b hp (hlo lo 0 a h3) (hlo hi n b h4)
      simp only [SV.den, SC.den]
      rw [hr]
      congr 4
      split <;> simp [add_zero']
theorem len_ok {t : TypeId} {ty : TypeId} {x v : SV} {p : Prop} (h : qe (tiOf P t) (some x) = some (p, v)) : (Builtin.len_ #[t] ty #[x.den ρ]).run P w = .ok (v.den ρ) w ∧ v.wf pr := by
  cases ht : tiOf P t with
  | none => rw [ht] at h; simp [qe] at h
  | some ti =>
    rw [ht] at h
    obtain ⟨_, d, _, fs, ei, _, hu, _, hfs, hei, rfl⟩ := tiOf_some ht
    unfold qe at h
    split at h <;> try cases h
    all_goals
      rename_i h1 h2
      cases h2
      simp only [Option.some.injEq, TI.mk.injEq] at h1
      obtain ⟨_, _, _, _, _, _, hk, _⟩ := h1
      refine ⟨?_, trivial⟩
    · obtain rfl := kd_str hk
      simp [Builtin.len_, run_und hu, SV.den, SC.den, goInt, bs_size]
    · obtain ⟨e, rfl⟩ := kd_slice hk
      simp [Builtin.len_, run_und hu, SV.den, SC.den, goInt]
    · obtain ⟨e, rfl⟩ := kd_slice hk
      simp only [SV.den, SC.den]
      unfold rwOf
      split <;> simp [Builtin.len_, run_und hu, goInt]
    · obtain ⟨e, rfl⟩ := kd_slice hk
      simp [Builtin.len_, run_und hu, SV.den, SC.den, goInt]
theorem ext_ok {k : Nat} {x v : SV} {p : Prop} (h : qh k (some x) = some (p, v)) (hx : x.wf pr) : (Instr.extract (x.den ρ) k).run P w = .ok (v.den ρ) w ∧ v.wf pr := by
  unfold qh at h
  split at h <;> try cases h
  rename_i l h1
  cases h1
  split at h <;> simp only [Option.some.injEq, Prod.mk.injEq, reduceCtorEq] at h
  rename_i y hy
  obtain ⟨_, rfl⟩ := h
  rw [nthS_eq] at hy
  refine ⟨by simp [Instr.extract, SV.den, hy]; cases y <;> rfl, TE.wf_sv (hx y (List.mem_of_getElem? hy))⟩
theorem plain_den {x : SC} {y : Value} (h : qq x = some y) : x.den ρ = y := by cases x <;> simp_all [qq, SC.den]
theorem if_ok {t : TypeId} {x v : SV} {p : Prop} (h : qj t (tiOf P t) (some x) = some (p, v)) : (Instr.makeInterface t (x.den ρ)).run P w = .ok (v.den ρ) w ∧ v.wf pr := by
  cases ht : tiOf P t with
  | none => rw [ht] at h; simp [qj] at h
  | some ti =>
    rw [ht] at h
    obtain ⟨_, d, _, fs, ei, _, hu, _, hfs, hei, rfl⟩ := tiOf_some ht
    unfold qj at h
    split at h <;> try cases h
    rename_i k ik x h1 h2
    cases h2
    simp only [Option.some.injEq, TI.mk.injEq] at h1
    obtain ⟨_, _, _, _, _, _, hk, _⟩ := h1
    split at h
    · cases h
    rename_i h8
    split at h <;> simp only [Option.some.injEq, Prod.mk.injEq, reduceCtorEq] at h
    rename_i y hy
    obtain ⟨_, rfl⟩ := h
    refine ⟨?_, trivial⟩
    cases d with
    | interface ms => exact absurd hk.symm h8
    | _ => simp [Instr.makeInterface, run_und hu, SV.den, plain_den (ρ := ρ) hy]; rfl
end
end Go.Proofs.YtehfcboiimdkbaaGreatDoor
/- Building a struct out of its parts; all operations that only compute or read, in one law. -/
namespace Go.Proofs.YtehfcboiimdkbaaGreatDoor
set_option linter.unusedSimpArgs false
set_option linter.unusedVariables false
open Go.RowKit
section
variable {P : Program} {en : List EN} {ev : Operand → Option SV} {rv : Operand → Value} {ρ : Nat → RE} {pr : Nat → Prop} {w : World}
theorem layN_fold : ∀ (ys : List Value) (o k : Nat) (cur : List Value), o + k + ys.length ≤ cur.length ∨ ys = [] →
    (ys.toArray.zipIdx k).foldl (fun cs (c, j) => cs.setIfInBounds (o + j) c) cur.toArray = (cur.take (o + k) ++ ys ++ cur.drop (o + k + ys.length)).toArray
  | [], o, k, cur, _ => by
    have h : (([] : List Value).toArray).zipIdx k = #[] := by apply Array.ext <;> simp
    rw [h]; simp
  | y :: ys, o, k, cur, hle => by
    have hle' : o + k + (ys.length + 1) ≤ cur.length := by
      rcases hle with h | h
      · exact h
      · cases h
    have h3 := layN_fold ys o (k + 1) (cur.set (o + k) y) (by left; rw [List.length_set]; omega)
    have e1 : (y :: ys).toArray.zipIdx k = ((y, k) :: (ys.zipIdx (k + 1))).toArray := by simp
    have e2 : ys.toArray.zipIdx (k + 1) = (ys.zipIdx (k + 1)).toArray := by simp
    rw [e2] at h3
    rw [e1]
    simp only [List.size_toArray, List.foldl_toArray', List.foldl_cons, List.setIfInBounds_toArray] at h3 ⊢
    rw [h3]
    congr 1
    have h5 : (cur.set (o + k) y).take (o + (k + 1)) = cur.take (o + k) ++ [y] := by
      rw [← Nat.add_assoc, List.take_succ_eq_append_getElem (by rw [List.length_set]; omega), List.take_set_of_le (Nat.le_refl _), List.getElem_set_self]
    rw [h5, List.drop_set_of_lt (by omega)]
    simp [Nat.add_assoc, Nat.add_comm 1]
theorem one_cells {y : SC} (h : q0t y = true) : (SV.den ρ (.c y)).cells = (dens ρ [y]).toArray := by
  cases y with
  | v x => cases x <;> simp_all [q0t, Value.oneCell', SV.den, SC.den, dens, Value.cells]
  | rw c n => obtain ⟨q, k, hq⟩ := rwOf_sl (ρ c) n; simp [SV.den, SC.den, dens, hq, Value.cells]
  | u => cases h
  | _ => rfl
theorem layN_ok (pl : Nat → Option (Nat × Nat)) {i o sz : Nat} {x : Value} {ys l l' : List SC} (rest : List (Nat × Value)) (hpl : pl i = some (o, sz)) (hx : x.cells = (dens ρ ys).toArray) (hsz : sz = ys.length) (h : zC o ys l = some l') :
    Instr.fill pl (dens ρ l).toArray ((i, x) :: rest) = Instr.fill pl (dens ρ l').toArray rest := by
  obtain ⟨h1, h2⟩ := layN_some h
  have hle : o + ys.length ≤ l.length ∨ ys = [] := h2.imp id (·.1)
  have jB : x.cells.size = ys.length := by rw [hx]; simp [dens]
  have key : (x.cells.zipIdx.foldl (fun cs (c, j) => cs.setIfInBounds (o + j) c) (dens ρ l).toArray) = (dens ρ l').toArray := by
    rw [hx]
    have h4 := layN_fold (dens ρ ys) o 0 (dens ρ l) (by simpa [dens] using hle)
    simp only [Nat.add_zero] at h4
    rw [h4, h1]
    simp [dens, List.map_take, List.map_drop]
  have hif : ¬ (x.cells.size ≠ sz ∨ o + x.cells.size > (dens ρ l).toArray.size) := by
    rw [jB, hsz]
    simp [dens]
    rcases h2 with h2 | ⟨rfl, h3⟩
    · exact h2
    · simpa using h3
  rw [Instr.fill]
  simp only [hpl]
  rw [if_neg (by simpa using hif), key]
theorem fill_ok (fs : List (Nat × Nat × Bool)) (hev : ∀ x u, ev x = some u → rv x = u.den ρ ∧ u.wf pr) (pl : Nat → Option (Nat × Nat)) (hpl : ∀ j y, fs[j]? = some y → pl j = some (y.1, y.2.1)) :
    ∀ (ps : List (Nat × Operand)) (z l : List SC), qg fs ev ps z = some l → wfs pr z → Instr.fill pl (dens ρ z).toArray (ps.map fun x => (x.1, rv x.2)) = some (dens ρ l).toArray ∧ wfs pr l
  | [], z, l, h, hz => by simp [qg] at h; subst h; exact ⟨by simp [Instr.fill], hz⟩
  | (i, x) :: ps, z, l, h, hz => by
    simp only [qg] at h
    split at h <;> try cases h
    rename_i o sz ag hn
    rw [nthS_eq] at hn
    split at h <;> try cases h
    · rename_i y hx
      obtain ⟨e1, e2⟩ := hev _ _ hx
      split at h <;> try cases h
      rename_i hone
      split at h <;> try cases h
      rename_i hsz
      split at h <;> try cases h
      rename_i l' hl
      obtain ⟨h1, _⟩ := layN_some hl
      have hz' : wfs pr l' := by
        intro q hq
        rw [h1] at hq
        simp only [List.mem_append, List.mem_singleton] at hq
        rcases hq with (hq | rfl) | hq
        · exact hz q (List.mem_of_mem_take hq)
        · exact e2
        · exact hz q (List.mem_of_mem_drop hq)
      obtain ⟨r1, r2⟩ := fill_ok fs hev pl hpl ps l' l h hz'
      refine ⟨?_, r2⟩
      rw [List.map_cons, layN_ok pl _ (hpl i _ hn) (ys := [y]) (by rw [e1]; exact one_cells hone) hsz hl]
      exact r1
    · rename_i ys hx
      obtain ⟨e1, e2⟩ := hev _ _ hx
      split at h <;> try cases h
      rename_i hsz
      split at h <;> try cases h
      rename_i l' hl
      obtain ⟨h1, _⟩ := layN_some hl
      have hz' : wfs pr l' := by
        intro q hq
        rw [h1] at hq
        simp only [List.mem_append] at hq
        rcases hq with (hq | hq) | hq
        · exact hz q (List.mem_of_mem_take hq)
        · exact e2 q hq
        · exact hz q (List.mem_of_mem_drop hq)
      obtain ⟨r1, r2⟩ := fill_ok fs hev pl hpl ps l' l h hz'
      refine ⟨?_, r2⟩
      rw [List.map_cons, layN_ok pl _ (hpl i _ hn) (ys := ys) (by rw [e1]; rfl) hsz hl]
      exact r1
theorem build_ok {t : TypeId} {ps : List (Nat × Operand)} {v : SV} {p : Prop} (h : qf ev ps (tiOf P t) = some (p, v)) (hev : ∀ x u, ev x = some u → rv x = u.den ρ ∧ u.wf pr) :
    (Instr.build t (ps.map fun x => (x.1, rv x.2)).toArray).run P w = .ok (v.den ρ) w ∧ v.wf pr := by
  cases ht : tiOf P t with
  | none => rw [ht] at h; simp [qf] at h
  | some ti =>
    rw [ht] at h
    obtain ⟨i, d, z, fs, ei, hi, hu, hz, hfs, hei, rfl⟩ := tiOf_some ht
    unfold qf at h
    split at h <;> try cases h
    rename_i h1
    simp only [Option.some.injEq, TI.mk.injEq] at h1
    obtain ⟨_, _, rfl, rfl, _, _, hk, _⟩ := h1
    obtain ⟨fl, rfl⟩ := kd_struct hk
    split at h <;> simp only [Option.some.injEq, Prod.mk.injEq, reduceCtorEq] at h
    rename_i l hl
    obtain ⟨_, rfl⟩ := h
    have hzc : dens ρ (z.cells.toList.map qz) = z.cells.toList := by
      unfold dens
      rw [List.map_map]
      have : (SC.den ρ ∘ qz) = id := funext fun x => ofVal_den ρ x
      rw [this, List.map_id]
    have hfs' : fl.toList.mapM (fieldD P) = some fs := hfs
    obtain ⟨r1, r2⟩ := fill_ok fs hev (fun j => (fs.map fun y => (y.1, y.2.1)).toArray[j]?) (fun j y hy => by simp [hy]) ps _ l hl (fun q hq => by
      obtain ⟨u, _, rfl⟩ := List.mem_map.1 hq
      exact ofVal_wf _ _)
    refine ⟨run_build w t _ _ ?_, r2⟩
    unfold Program.built
    simp only [hi, hu, hz, fieldsD_places hfs']
    rw [hzc] at r1
    simpa using r1
theorem mkFs_get : ∀ {n o sz j : Nat} {y : Nat × Nat × Bool}, (qC n o sz)[j]? = some y → y.1 = o + j * sz ∧ y.2.1 = sz
  | 0, o, sz, j, y, h => by simp [qC] at h
  | n + 1, o, sz, 0, y, h => by simp [qC] at h; subst h; simp
  | n + 1, o, sz, j + 1, y, h => by
    obtain ⟨h1, h2⟩ := mkFs_get (n := n) (o := o + sz) (sz := sz) (j := j) (y := y) (by simpa [qC] using h)
    refine ⟨?_, h2⟩
    rw [h1, Nat.add_mul]; omega
theorem repZ_len : ∀ (n : Nat) (z : List SC), (qB n z).length = n * z.length
  | 0, z => by simp [qB]
  | n + 1, z => by simp [qB, appL_eq, repZ_len n z, Nat.add_mul]; omega
theorem repZ_get : ∀ (n : Nat) (z : List SC) (j : Nat), j < n * z.length → (qB n z)[j]? = z[j % z.length]?
  | 0, z, j, h => by simp at h
  | n + 1, z, j, h => by
    simp only [qB, appL_eq]
    by_cases hj : j < z.length
    · rw [List.getElem?_append_left hj, Nat.mod_eq_of_lt hj]
    · have hm : j % z.length = (j - z.length) % z.length := Nat.mod_eq_sub_mod (by omega)
      rw [List.getElem?_append_right (by omega), repZ_get n z (j - z.length) (by rw [Nat.add_mul] at h; omega), hm]
theorem buildSl_ok {t : TypeId} {n : Nat} {ps : List (Nat × Operand)} {el : TypeId} {l : List SC} (h : qD P ev t n ps = some (el, l)) (hev : ∀ x ∈ ps, ∀ u, ev x.2 = some u → rv x.2 = u.den ρ ∧ u.wf pr) :
    el ≠ DEAD ∧ wfs pr l ∧ (Instr.buildSlice t n (ps.map fun x => (x.1, rv x.2)).toArray).run P w = .ok (.slice (some ⟨w.heap.size, 0, none⟩) n n) (w.alloc (.cells (dens ρ l).toArray el)) := by
  classical
  unfold qD at h
  split at h <;> try cases h
  rename_i sz0 ag0 z0 fs0 el0 es0 ik0 ht
  split at h <;> try cases h
  rename_i sz ag z fs el1 es1 kd1 ik1 he
  split at h
  · simp only [Option.some.injEq, Prod.mk.injEq] at h
    obtain ⟨rfl, rfl⟩ := h
    obtain ⟨i, d, zv, fs', e', hi, hu, hz, _, hel, hti⟩ := tiOf_some ht
    simp only [TI.mk.injEq] at hti
    obtain ⟨_, _, _, _, rfl, _, hk, _⟩ := hti
    obtain ⟨el, rfl⟩ := kd_slice hk.symm
    obtain ⟨i2, d2, zv2, fs2, e2, hi2, hu2, hz2, _, _, hti2⟩ := tiOf_some he
    have hdead : elemD (some (TypeDesc.slice el)) ≠ DEAD := by
      intro hh
      rw [hh] at he
      have : tiOf P DEAD = none := tiOf_dead P
      rw [this] at he; cases he
    refine ⟨hdead, (fun y hy => nomatch hy), ?_⟩
    have hsz : (sizeOf (elemD (some (TypeDesc.slice el)))).run P w = .ok i2.size w := run_sizeOf hi2
    have hel' : elemD (some (TypeDesc.slice el)) = el := rfl
    rw [hel'] at hsz ⊢
    have hnr : ∀ cs : Array Value, (newRow el cs).run P w = .ok ⟨w.heap.size, 0, none⟩ (w.alloc (.cells cs el)) := fun _ => rfl
    have h00 : ∀ q : Nat → Value, Array.map q (Array.range 0) = #[] := fun q => by apply Array.toList_inj.1; simp
    simp [Instr.buildSlice, run_und hu, hsz, Instr.fill, hnr, dens, h00]
  split at h <;> try cases h
  rename_i hc
  split at h <;> simp only [Option.some.injEq, Prod.mk.injEq, reduceCtorEq] at h
  rename_i l' hl
  obtain ⟨rfl, rfl⟩ := h
  obtain ⟨i, d, zv, fs', e', hi, hu, hz, _, hel, hti⟩ := tiOf_some ht
  simp only [TI.mk.injEq] at hti
  obtain ⟨_, _, _, _, rfl, _, hk, _⟩ := hti
  obtain ⟨el, rfl⟩ := kd_slice hk.symm
  obtain ⟨i2, d2, zv2, fs2, e2, hi2, hu2, hz2, _, _, hti2⟩ := tiOf_some he
  simp only [TI.mk.injEq] at hti2
  obtain ⟨rfl, _, rfl, _⟩ := hti2
  obtain ⟨hc1, hc2, hc3, hc4⟩ := hc
  rw [lenN_eq] at hc1
  have hzl : zv2.cells.size = i2.size := by simpa using hc1
  have hdead : elemD (some (TypeDesc.slice el)) ≠ DEAD := by
    intro hh
    rw [hh] at he
    have : tiOf P DEAD = none := tiOf_dead P
    rw [this] at he; cases he
  have hl2 : qg (qC n 0 i2.size) (fun x => if ∃ p ∈ ps, p.2 = x then ev x else none) ps (qB n (zv2.cells.toList.map qz)) = some l' := by
    rw [← hl]
    have cg : ∀ (qs : List (Nat × Operand)) (l : List SC), (∀ q ∈ qs, q ∈ ps) → qg (qC n 0 i2.size) (fun x => if ∃ p ∈ ps, p.2 = x then ev x else none) qs l = qg (qC n 0 i2.size) ev qs l := by
      intro qs
      induction qs with
      | nil => intro l _; rfl
      | cons q qs ih =>
        intro l hq
        obtain ⟨qi, qx⟩ := q
        have h0 : (if ∃ p ∈ ps, p.2 = qx then ev qx else none) = ev qx := if_pos ⟨(qi, qx), hq _ (by simp), rfl⟩
        simp only [qg, h0]
        simp only [ih _ (fun q hq' => hq q (by simp [hq']))]
    exact cg ps _ (fun q hq => hq)
  obtain ⟨r1, r2⟩ := fill_ok (rv := rv) (ρ := ρ) (pr := pr) (qC n 0 i2.size) (fun x u hx => by
    split at hx
    · rename_i hp
      obtain ⟨p, hp1, rfl⟩ := hp
      exact hev p hp1 u hx
    · cases hx) (fun j => some (j * i2.size, i2.size)) (fun j y hy => by
    obtain ⟨h1, h2⟩ := mkFs_get hy
    rw [h1, h2]; simp) ps _ l' hl2 (fun q hq => by
    have : ∀ n, ∀ q ∈ qB n (zv2.cells.toList.map qz), q ∈ zv2.cells.toList.map qz := by
      intro n
      induction n with
      | zero => intro q hq; simp [qB] at hq
      | succ n ih =>
        intro q hq
        simp only [qB, appL_eq, List.mem_append] at hq
        exact hq.elim id (ih q)
    obtain ⟨u, _, rfl⟩ := List.mem_map.1 (this n q hq)
    exact ofVal_wf _ _)
  refine ⟨hdead, r2, ?_⟩
  have hsz : (sizeOf (elemD (some (TypeDesc.slice el)))).run P w = .ok i2.size w := run_sizeOf hi2
  have hzr : (zeroValue (elemD (some (TypeDesc.slice el)))).run P w = .ok zv2 w := by simp [zeroValue, typeInfo, hi2, hz2]
  have hcells : ((Array.range (n * i2.size)).map fun j => zv2.cells[j % zv2.cells.size]!) = (dens ρ (qB n (zv2.cells.toList.map qz))).toArray := by
    apply Array.toList_inj.1
    apply List.ext_getElem?
    intro j
    simp only [Array.toList_map, Array.toList_range, List.getElem?_map, List.toList_toArray, dens]
    by_cases hj : j < n * i2.size
    · rw [List.getElem?_range hj, repZ_get _ _ j (by simpa [hzl] using hj)]
      have hm : j % i2.size < zv2.cells.size := by rw [hzl]; exact Nat.mod_lt _ hc2
      simp only [Option.map_some, List.length_map, Array.length_toList, hzl, List.getElem?_map]
      rw [Array.getElem?_toList, Array.getElem?_eq_getElem hm]
      simp only [Option.map_some, ofVal_den, Option.some.injEq]
      exact getElem!_pos zv2.cells (j % i2.size) hm
    · rw [List.getElem?_eq_none (by simpa using hj), List.getElem?_eq_none (by rw [repZ_len]; simpa [hzl] using hj)]
      rfl
  have hs0 : ¬ (n * i2.size = 0) := Nat.ne_of_gt (Nat.mul_pos hc3 hc2)
  have hs1 : ¬ (n * i2.size > 2 ^ 24) := by omega
  have hel' : elemD (some (TypeDesc.slice el)) = el := rfl
  rw [hel'] at hsz hzr ⊢
  simp only [Instr.buildSlice, Sem.run_bind, run_und hu, Result.andThen_ok, hsz, if_neg hs1, if_neg hs0, hzr, Sem.run_pure, hcells, r1]
  have hnr : ∀ cs : Array Value, (newRow el cs).run P w = .ok ⟨w.heap.size, 0, none⟩ (w.alloc (.cells cs el)) := fun _ => rfl
  rw [hnr]
  rfl
theorem caps_ok (hev : ∀ x u, ev x = some u → rv x = u.den ρ ∧ u.wf pr) : ∀ (xs : List Operand) (l : List (Nat × Nat)), qk ev xs = some l → xs.map rv = l.map (fun x => ptrOf ρ x.1 x.2) ∧ ∀ x ∈ l, pr x.1
  | [], l, h => by simp [qk] at h; subst h; simp
  | x :: xs, l, h => by
    simp only [qk] at h
    split at h <;> try cases h
    rename_i c o hx
    obtain ⟨e1, e2⟩ := hev _ _ hx
    split at h <;> simp only [Option.some.injEq, reduceCtorEq] at h
    rename_i r hr
    subst h
    obtain ⟨r1, r2⟩ := caps_ok hev xs r hr
    refine ⟨by simp [r1, e1, SV.den, SC.den], ?_⟩
    intro y hy
    rcases List.mem_cons.1 hy with rfl | hy
    · exact e2
    · exact r2 y hy
theorem softS_ok {op : Op} {o : Oper} (ho : o.op = op) {p : Prop} {v : SV} {rd : Rd} (h : qK P rd en ev op = some (p, v)) (hp : p) (hev : ∀ x u, ev x = some u → rv x = u.den ρ ∧ u.wf pr) (hrd : RdOk rd w) (hh : Hp ρ pr en w) (hho : Ho ρ pr en) :
    (execOp rv o).run P w = .ok (.value (v.den ρ)) w ∧ v.wf pr := by
  have mv : ∀ x, qO (ev x) = some (p, v) → rv x = v.den ρ ∧ v.wf pr := by
    intro x hx
    cases hv : ev x with
    | none => rw [hv] at hx; cases hx
    | some u => rw [hv] at hx; simp only [qO, Option.some.injEq, Prod.mk.injEq] at hx; obtain ⟨_, rfl⟩ := hx; exact hev _ _ hv
  cases op <;> simp only [qK] at h <;> try (cases h; done)
  case move x => obtain ⟨e1, e2⟩ := mv x h; exact ⟨by simp [execOp, ho, e1], e2⟩
  case assign x => obtain ⟨e1, e2⟩ := mv x h; exact ⟨by simp [execOp, ho, e1], e2⟩
  case pick c a b =>
    split at h <;> try cases h
    rename_i x hx
    obtain ⟨e1, _⟩ := hev _ _ hx
    cases x with
    | true =>
      cases ha : ev a with
      | none => rw [ha] at h; simp [qp] at h
      | some y =>
        rw [ha] at h
        simp only [qp, Option.some.injEq, Prod.mk.injEq] at h
        obtain ⟨_, rfl⟩ := h
        obtain ⟨e2, e3⟩ := hev _ _ ha
        have e1' : rv c = .bool true := e1
        exact ⟨by simp [execOp, ho, e1', asBool, e2], e3⟩
    | false =>
      cases hb : ev b with
      | none => rw [hb] at h; simp [qp] at h
      | some y =>
        rw [hb] at h
        simp only [qp, Option.some.injEq, Prod.mk.injEq] at h
        obtain ⟨_, rfl⟩ := h
        obtain ⟨e2, e3⟩ := hev _ _ hb
        have e1' : rv c = .bool false := e1
        exact ⟨by simp [execOp, ho, e1', asBool, e2], e3⟩
  case build t ps =>
    obtain ⟨r1, r2⟩ := build_ok (w := w) h hev
    refine ⟨?_, r2⟩
    have : (ps.map fun x => (x.1, rv x.2)) = (ps.toList.map fun x => (x.1, rv x.2)).toArray := by
      apply Array.toList_inj.1; simp
    simp [execOp, ho]
    rw [this, r1]
    simp
  case load t a =>
    cases ha : ev a with
    | none => rw [ha] at h; simp [qP] at h
    | some x =>
      rw [ha] at h
      obtain ⟨e1, e2⟩ := hev _ _ ha
      obtain ⟨r1, r2⟩ := load_ok h e2 hrd hh
      exact ⟨by simp [execOp, ho, e1, r1], r2⟩
  case nilCheck x =>
    cases ha : ev x with
    | none => rw [ha] at h; cases h
    | some y =>
      rw [ha] at h
      obtain ⟨e1, e2⟩ := hev _ _ ha
      unfold qQ at h
      split at h <;> simp only [Option.some.injEq, Prod.mk.injEq, reduceCtorEq] at h
      · rename_i q; cases q; obtain ⟨_, rfl⟩ := h; exact ⟨by simp [execOp, ho, e1, SV.den, SC.den, ptrOf], e2⟩
      · rename_i q; cases q; obtain ⟨_, rfl⟩ := h; exact ⟨by simp [execOp, ho, e1, SV.den, SC.den], e2⟩
  case binOp b t x y t' => exact binV_ok h hp x y o ho (fun u hu => (hev _ _ hu).1) (fun u hu => (hev _ _ hu).1)
  case unOp u t x =>
    cases ha : ev x with
    | none => rw [ha] at h; cases h
    | some y =>
      rw [ha] at h
      obtain ⟨r1, r2⟩ := un_ok (P := P) (w := w) (ρ := ρ) (pr := pr) h
      exact ⟨by simp [execOp, ho, (hev _ _ ha).1, r1], r2⟩
  case convert s t x =>
    cases ha : ev x with
    | none => rw [ha] at h; unfold qU at h; split at h <;> first | contradiction | cases h
    | some y =>
      rw [ha] at h
      obtain ⟨r1, r2⟩ := conv_ok (w := w) (ρ := ρ) (pr := pr) h
      exact ⟨by simp [execOp, ho, (hev _ _ ha).1, r1], r2⟩
  case makeInterface t x =>
    cases ha : ev x with
    | none => rw [ha] at h; unfold qj at h; split at h <;> first | contradiction | cases h
    | some y =>
      rw [ha] at h
      obtain ⟨r1, r2⟩ := if_ok (w := w) (ρ := ρ) (pr := pr) h
      exact ⟨by simp [execOp, ho, (hev _ _ ha).1, r1], r2⟩
  case makeFunc fn first cap =>
    split at h <;> try cases h
    rename_i hf
    split at h <;> simp only [Option.some.injEq, Prod.mk.injEq, reduceCtorEq] at h
    rename_i l hl
    obtain ⟨_, rfl⟩ := h
    obtain ⟨r1, r2⟩ := caps_ok hev _ _ hl
    have h1 : first = #[] := by apply Array.toList_inj.1; simpa using hf
    have h2 : cap.map rv = (l.map fun x => ptrOf ρ x.1 x.2).toArray := by apply Array.toList_inj.1; simpa using r1
    refine ⟨?_, r2⟩
    simp [execOp, ho, Instr.makeFunc, h1, h2, SV.den, SC.den]
  case slice t x lo hi mx =>
    cases mx with
    | some m => simp only [reduceCtorEq] at h
    | none =>
      simp only at h
      cases ha : ev x with
      | none => rw [ha] at h; unfold qZ at h; split at h <;> first | contradiction | cases h
      | some y =>
        rw [ha] at h
        obtain ⟨r1, r2⟩ := sl_ok (w := w) (ρ := ρ) (pr := pr) h hp (hev _ _ ha).2 hev
        exact ⟨by simp [execOp, ho, (hev _ _ ha).1, r1], r2⟩
  case fieldAddr t x f =>
    cases ha : ev x with
    | none => rw [ha] at h; unfold qV at h; split at h <;> first | contradiction | cases h
    | some y =>
      rw [ha] at h
      obtain ⟨r1, r2⟩ := fa_ok (w := w) (ρ := ρ) h (hev _ _ ha).2
      exact ⟨by simp [execOp, ho, (hev _ _ ha).1, r1], r2⟩
  case field t x f =>
    cases ha : ev x with
    | none => rw [ha] at h; unfold qW at h; split at h <;> first | contradiction | cases h
    | some y =>
      rw [ha] at h
      obtain ⟨r1, r2⟩ := fld_ok (w := w) (ρ := ρ) h (hev _ _ ha).2
      exact ⟨by simp [execOp, ho, (hev _ _ ha).1, r1], r2⟩
  case indexAddr t x j =>
    cases ha : ev x with
    | none => rw [ha] at h; unfold qX at h; split at h <;> first | contradiction | cases h
    | some y =>
      cases hb : ev j with
      | none => rw [hb] at h; unfold qX at h; split at h <;> first | contradiction | cases h
      | some z =>
        rw [ha, hb] at h
        obtain ⟨r1, r2⟩ := ia_ok (w := w) (ρ := ρ) h hp (hev _ _ ha).2 hh hho
        exact ⟨by simp [execOp, ho, (hev _ _ ha).1, (hev _ _ hb).1, r1], r2⟩
  case index t x j =>
    cases ha : ev x with
    | none => rw [ha] at h; unfold qY at h; split at h <;> first | contradiction | cases h
    | some y =>
      cases hb : ev j with
      | none => rw [hb] at h; unfold qY at h; split at h <;> first | contradiction | cases h
      | some z =>
        rw [ha, hb] at h
        obtain ⟨r1, r2⟩ := ix_ok (w := w) (ρ := ρ) (pr := pr) h hp
        exact ⟨by simp [execOp, ho, (hev _ _ ha).1, (hev _ _ hb).1, r1], r2⟩
  case extract x k =>
    cases ha : ev x with
    | none => rw [ha] at h; cases h
    | some y =>
      rw [ha] at h
      obtain ⟨r1, r2⟩ := ext_ok (P := P) (w := w) (ρ := ρ) h (hev _ _ ha).2
      exact ⟨by simp [execOp, ho, (hev _ _ ha).1, r1], r2⟩
  case call c =>
    unfold qN at h
    split at h <;> try cases h
    · rename_i args tys
      split at h <;> try cases h
      rename_i x t hx ht
      cases ha : ev x with
      | none => rw [ha] at h; unfold qe at h; split at h <;> first | contradiction | cases h
      | some y =>
        rw [ha] at h
        obtain ⟨r1, r2⟩ := len_ok (w := w) (ty := o.type) (ρ := ρ) (pr := pr) h
        have h1 : args = #[x] := by apply Array.toList_inj.1; simpa using hx
        have h2 : tys = #[t] := by apply Array.toList_inj.1; simpa using ht
        subst h1; subst h2
        refine ⟨?_, r2⟩
        simp [execOp, ho, resolve, invoke, builtin, (hev _ _ ha).1, r1]
    · rename_i args tys
      split at h <;> try cases h
      rename_i x y hx
      have h1 : args = #[x, y] := by apply Array.toList_inj.1; simpa using hx
      subst h1
      unfold qn at h
      split at h <;> simp only [Option.some.injEq, Prod.mk.injEq, reduceCtorEq] at h
      rename_i k a k' b ha hb
      obtain ⟨_, rfl⟩ := h
      refine ⟨?_, trivial⟩
      have e1 := (hev _ _ ha).1
      have e2 := (hev _ _ hb).1
      simp [execOp, ho, resolve, invoke, builtin, e1, e2, SV.den, SC.den, Builtin.min_, Builtin.min2]
    · rename_i args tys
      split at h <;> try cases h
      rename_i x y hx
      have h1 : args = #[x, y] := by apply Array.toList_inj.1; simpa using hx
      subst h1
      unfold qo at h
      split at h <;> simp only [Option.some.injEq, Prod.mk.injEq, reduceCtorEq] at h
      rename_i k a k' b ha hb
      obtain ⟨_, rfl⟩ := h
      refine ⟨?_, trivial⟩
      have e1 := (hev _ _ ha).1
      have e2 := (hev _ _ hb).1
      simp [execOp, ho, resolve, invoke, builtin, e1, e2, SV.den, SC.den, Builtin.max_, Builtin.max2]
end
end Go.Proofs.YtehfcboiimdkbaaGreatDoor
/- The symbolic walk through code: what is left to be shown of a piece of code from a state on. -/
namespace Go.Proofs.YtehfcboiimdkbaaGreatDoor
set_option linter.unusedSimpArgs false
set_option linter.unusedVariables false
open Go.RowKit
structure Cx where
  P : Program
  Q : Exit → Act → World → Prop
  S : Nat → Prop
  w0 : World
  ρ0 : Nat → RE
  n0 : Nat
  kp : List Nat
  df : List Deferred
def RdP (S : Nat → Prop) (w0 : World) (b o : Nat) (vs : List Value) : Prop := ∀ w, Upd S w0 w → ∀ (j : Nat) v, vs[j]? = some v → w.cell? ⟨b, o + j, none⟩ = some v
open Classical in
noncomputable def rdOf (S : Nat → Prop) (w0 : World) : Rd := fun b o n => if h : ∃ vs : List Value, vs.length = n ∧ RdP S w0 b o vs then some (h.choose.map qz) else none
noncomputable def Cx.rd (C : Cx) : Rd := rdOf C.S C.w0
theorem rd_of {C : Cx} {b o n : Nat} {vs : List Value} (h : RdP C.S C.w0 b o vs) (hn : vs.length = n) : C.rd b o n = some (vs.map qz) := by
  unfold Cx.rd rdOf
  have hx : ∃ vs : List Value, vs.length = n ∧ RdP C.S C.w0 b o vs := ⟨vs, hn, h⟩
  rw [dif_pos hx]
  obtain ⟨h1, h2⟩ := hx.choose_spec
  congr 2
  apply List.ext_getElem?
  intro j
  have hlen : hx.choose.length = vs.length := by rw [h1, hn]
  rcases Nat.lt_or_ge j vs.length with hj | hj
  · have a1 := h _ (Upd.refl _ _) j _ (List.getElem?_eq_getElem hj)
    have a2 := h2 _ (Upd.refl _ _) j _ (List.getElem?_eq_getElem (show j < hx.choose.length by omega))
    rw [a1] at a2
    rw [List.getElem?_eq_getElem hj, List.getElem?_eq_getElem (show j < hx.choose.length by omega)]
    exact a2.symm
  · rw [List.getElem?_eq_none hj, List.getElem?_eq_none (by omega)]
theorem rd_ok {C : Cx} {w : World} (hu : Upd C.S C.w0 w) : RdOk C.rd w := by
  intro b o n l h
  unfold Cx.rd rdOf at h
  split at h
  · rename_i hx
    obtain ⟨h1, h2⟩ := hx.choose_spec
    simp only [Option.some.injEq] at h
    exact ⟨_, h1, h.symm, fun j v hv => h2 w hu j v hv⟩
  · cases h
inductive KI where
  | code (c : Code)
  | blk (id : Nat)
  | ops (all r : List Oper)
def ev (sl : List (Nat × SV)) : Operand → Option SV
  | .tmp t => qy sl t
  | .const v => some (.c (qz v))
  | .func f => some (.c (.v (.func (.func f) #[] #[])))
  | .global _ => none
def qw (sl : List (Nat × SV)) : List Operand → Option (List SV)
  | [] => some []
  | x :: r => match ev sl x with
    | some v => match qw sl r with
      | some l => some (v :: l)
      | none => none
    | none => none
def deadE (r : RE) : Option EN → Bool
  | some ⟨(t, _), _, _⟩ => t == DEAD || r.nl.isSome
  | none => true
theorem deadE_of {r : RE} {en : List EN} {c : Nat} {ty : TypeId × Nat × (RE → Prop)} {cells : List SC} {mu : Bool} (h : zD en c = some ⟨ty, cells, mu⟩) : deadE r (zD en c) = false ↔ ty.1 ≠ DEAD ∧ r.nl = none := by
  rw [h]; obtain ⟨t, x⟩ := ty; simp [deadE]
def Inj (ρ : Nat → RE) (pr : Nat → Prop) (en : List EN) : Prop := ∀ c d, pr c → pr d → deadE (ρ c) (zD en c) = false → deadE (ρ d) (zD en d) = false → (ρ c).blk = (ρ d).blk → c = d
structure Hw (C : Cx) (ρ : Nat → RE) (pr : Nat → Prop) (en : List EN) (w : World) : Prop where
  hp : Hp ρ pr en w
  ho : Ho ρ pr en
  inj : Inj ρ pr en
  up : Upd C.S C.w0 w
  mu : ∀ c ty cells, pr c → zD en c = some ⟨ty, cells, true⟩ → C.S (ρ c).blk ∨ C.w0.heap.size ≤ (ρ c).blk
  ini : ∀ c, c < C.n0 → ρ c = C.ρ0 c
structure Rep (C : Cx) (ρ : Nat → RE) (nt : Nat) (sl : List (Nat × SV)) (en : List EN) (a : Act) (w : World) : Prop where
  hw : Hw C ρ (· < en.length) en w
  tm : ∀ d v, qy sl d = some v → a.tmps[d]? = some (v.den ρ) ∧ v.wf (· < en.length)
  sz : a.tmps.size = nt
  df : a.defers = C.df
  n0 : C.n0 ≤ en.length
def KQ (C : Cx) : List KI → Exit → Act → World → Prop
  | [] => C.Q
  | .code c :: k => Exit.then (c.wp C.P (KQ C k)) (KQ C k)
  | .blk id :: k => Exit.inBlock id (KQ C k)
  | .ops all r :: k => Exit.then (wpList C.P all.toArray (KQ C k) r) (KQ C k)
def Run (C : Cx) (k : List KI) (nt : Nat) (sl : List (Nat × SV)) (en : List EN) : Prop :=
  ∀ ρ a w, Rep C ρ nt sl en a w → KQ C k .normal a w
abbrev Ctr := Nat → List EN → List SV → Option (Prop × SV)
def CtrOk (C : Cx) (ctr : Ctr) : Prop :=
  ∀ f en xs p v, ctr f en xs = some (p, v) → p → ∀ ρ w, Upd C.S C.w0 w → Hp ρ (· < en.length) en w → Ho ρ (· < en.length) en → Inj ρ (· < en.length) en → (∀ x ∈ xs, x.wf (· < en.length)) →
    (∀ args w, (callFunc f args).run C.P w = .ok (.enter f args) w) ∧ v.wf (· < en.length) ∧ Calls C.P f (xs.map (SV.den ρ)).toArray w fun e w' => e = .returned (v.den ρ) ∧ Below w.heap.size w w'
def zH (id : Nat) : List KI → Option (List KI)
  | [] => none
  | .blk i :: k => if id = i then some k else zH id k
  | .code _ :: k => zH id k
  | .ops _ _ :: k => zH id k
def zI (l : List Nat) (d : Nat) : Bool :=
  match l with
  | [] => false
  | x :: r => if d = x then true else zI r d
def zJ (kp : List Nat) : List (Nat × SV) → List (Nat × SV)
  | [] => []
  | (d, v) :: l => bif zI kp d then (d, v) :: zJ kp l else zJ kp l
def zF {α : Type} : List α → α → List α
  | [], y => [y]
  | x :: l, y => x :: zF l y
theorem snoc_eq {α : Type} : ∀ (l : List α) (y : α), zF l y = l ++ [y]
  | [], _ => rfl
  | x :: l, y => by simp [zF, snoc_eq l y]
def qu : List SC → Bool
  | [] => true
  | x :: l => bif q0t x then qu l else false
theorem onesS_mem : ∀ {l : List SC}, qu l = true → ∀ x ∈ l, q0t x = true
  | [], _, _, h => nomatch h
  | x :: l, h, y, hy => by
    simp only [qu, cond_eq_ite] at h
    split at h
    · rename_i hx
      rcases List.mem_cons.1 hy with rfl | hy
      · exact hx
      · exact onesS_mem h y hy
    · cases h
def qv : SV → Option (List SC)
  | .c x => bif q0t x then some [x] else none
  | .g l => bif qu l then some l else none
  | .t _ => none
def qI (nt : Nat) (K : List (Nat × SV) → List EN → Prop) (stop : Prop) (dst : Option Nat) (v : SV) (sl : List (Nat × SV)) (en : List EN) : Prop :=
  match dst with
  | some d => if d < nt then K ((d, v) :: sl) en else stop
  | none => K sl en
def qJ (K : List EN → Prop) (stop : Prop) (en : List EN) : Option TI → Option SV → Option SV → Prop
  | some ⟨sz, _, _, _, _, _, _, _⟩, some (.c (.p c o)), some v => match zD en c with
    | some ⟨ty, cells, true⟩ => match qv v with
      | some vs => if zG vs = sz then (match zC o vs cells with
        | some l => K (zE en c ⟨ty, l, true⟩)
        | none => stop) else stop
      | none => stop
    | _ => stop
  | _, _, _ => stop
def qH (P : Program) (rd : Rd) (ctr : Ctr) (nt : Nat) (K : List (Nat × SV) → List EN → Prop) (stop : Prop) (dst : Option Nat) (sl : List (Nat × SV)) (en : List EN) : Op → Prop
  | .alloc t => match tiOf P t with
    | some ⟨_, _, z, _, _, _, _, _⟩ => qI nt K stop dst (.c (.p (zG en) 0)) sl (zF en ⟨(t, 0, whole), z, true⟩)
    | none => stop
  | .box t x => match ev sl x with
    | some v => match qv v with
      | some l => if t = 4294967295 then stop else qI nt K stop dst (.c (.p (zG en) 0)) sl (zF en ⟨(t, 0, whole), l, true⟩)
      | none => stop
    | none => stop
  | .buildSlice t n ps => match qD P (ev sl) t n ps.toList with
    | some (el, l) => qI nt K stop dst (.c (.sl (zG en) 0 n n)) sl (zF en ⟨(el, 0, whole), l, true⟩)
    | none => stop
  | .store t a x => match dst with
    | none => qJ (K sl) stop en (tiOf P t) (ev sl a) (ev sl x)
    | some _ => stop
  | .call ⟨.value (.func f), args, _⟩ => match qw sl args.toList with
    | some xs => match ctr f en xs with
      | some (p, v) => p ∧ qI nt K stop dst v sl en
      | none => stop
    | none => stop
  | op => match qK P rd en (ev sl) op with
    | some (p, v) => p ∧ qI nt K stop dst v sl en
    | none => stop
def qF : SV → Option TE
  | .c x => some (.c x)
  | .g l => some (.g l)
  | .t _ => none
def qE (P : Program) (sl : List (Nat × SV)) (en : List EN) : List ResultVar → Option (List TE)
  | [] => some []
  | .tmp t :: r => match qy sl t with
    | some v => match qF v with
      | some x => match qE P sl en r with
        | some l => some (x :: l)
        | none => none
      | none => none
    | none => none
  | .cell b t :: r => match qP noRd en (qy sl b) (tiOf P t) with
    | some (_, v) => match qF v with
      | some x => match qE P sl en r with
        | some l => some (x :: l)
        | none => none
      | none => none
    | none => none
def qG : List TE → SV
  | [x] => x.sv
  | l => .t l
def resG (tmps : Array Value) : ResultVar → Sem Value
  | .tmp t => pure (tmps.getD t undef)
  | .cell b t => do loadVar t (← asAddr (tmps.getD b undef))
def Fin (C : Cx) (rs : List ResultVar) (v : SV) (en : List EN) : Prop :=
  ∀ ρ a w, Hw C ρ (· < en.length) en w → C.n0 ≤ en.length → v.wf (· < en.length) → a.defers = C.df → (∀ fn : Func, fn.results.toList = rs → (results fn a.tmps).run C.P w = .ok (v.den ρ) w) → C.Q .ret a w
def VC (C : Cx) (ctr : Ctr) (rs : List ResultVar) : Nat → List KI → Nat → List (Nat × SV) → List EN → Prop
  | 0, k, nt, sl, en => Run C k nt sl en
  | _ + 1, [], nt, sl, en => Run C [] nt sl en
  | n + 1, .blk _ :: k, nt, sl, en => VC C ctr rs n k nt sl en
  | n + 1, .ops _ [] :: k, nt, sl, en => VC C ctr rs n k nt (zJ C.kp sl) en
  | n + 1, .ops all (⟨dst, op, ty, pos, af, none⟩ :: r) :: k, nt, sl, en =>
    qH C.P C.rd ctr nt (VC C ctr rs n (.ops all r :: k) nt) (Run C (.ops all (⟨dst, op, ty, pos, af, none⟩ :: r) :: k) nt sl en) dst sl en op
  | n + 1, .ops all (⟨dst, op, ty, pos, af, some (j, b)⟩ :: r) :: k, nt, sl, en =>
    match zD all j with
    | some ⟨some d, _, _, _, _, _⟩ => match qy sl d with
      | some (.c (.b x)) =>
        (x = b → qH C.P C.rd ctr nt (VC C ctr rs n (.ops all r :: k) nt) (Run C (.ops all (⟨dst, op, ty, pos, af, some (j, b)⟩ :: r) :: k) nt ((d, .c (.b b)) :: sl) en) dst ((d, .c (.b b)) :: sl) en op) ∧
        (x = (!b) → qI nt (VC C ctr rs n (.ops all r :: k) nt) (Run C (.ops all (⟨dst, op, ty, pos, af, some (j, b)⟩ :: r) :: k) nt sl en) dst (.c .u) ((d, .c (.b !b)) :: sl) en)
      | some (.c .u) => qI nt (VC C ctr rs n (.ops all r :: k) nt) (Run C (.ops all (⟨dst, op, ty, pos, af, some (j, b)⟩ :: r) :: k) nt sl en) dst (.c .u) sl en
      | _ => Run C (.ops all (⟨dst, op, ty, pos, af, some (j, b)⟩ :: r) :: k) nt sl en
    | _ => Run C (.ops all (⟨dst, op, ty, pos, af, some (j, b)⟩ :: r) :: k) nt sl en
  | n + 1, .code .skip :: k, nt, sl, en => VC C ctr rs n k nt sl en
  | n + 1, .code (.seq a b) :: k, nt, sl, en => VC C ctr rs n (.code a :: .code b :: k) nt sl en
  | n + 1, .code (.block id c) :: k, nt, sl, en => VC C ctr rs n (.code c :: .blk id :: k) nt sl en
  | n + 1, .code (.exit id) :: k, nt, sl, en => match zH id k with
    | some k' => VC C ctr rs n k' nt sl en
    | none => Run C (.code (.exit id) :: k) nt sl en
  | n + 1, .code (.cond c a b) :: k, nt, sl, en => match ev sl c with
    | some (.c (.b x)) => (x = true → VC C ctr rs n (.code a :: k) nt sl en) ∧ (x = false → VC C ctr rs n (.code b :: k) nt sl en)
    | _ => Run C (.code (.cond c a b) :: k) nt sl en
  | n + 1, .code (.region _ ops false) :: k, nt, sl, en => VC C ctr rs n (.ops ops.toList ops.toList :: k) nt sl en
  | _ + 1, .code .ret :: k, nt, sl, en => match qE C.P sl en rs with
    | some l => Fin C rs (qG l) en
    | none => Run C (.code .ret :: k) nt sl en
  | _ + 1, k, nt, sl, en => Run C k nt sl en
end Go.Proofs.YtehfcboiimdkbaaGreatDoor
/- The symbolic walk is sound: what it leaves to be shown is enough. -/
namespace Go.Proofs.YtehfcboiimdkbaaGreatDoor
set_option linter.unusedSimpArgs false
set_option linter.unusedVariables false
open Go.RowKit
section
variable {C : Cx} {ρ : Nat → RE} {nt : Nat} {sl : List (Nat × SV)} {en : List EN} {a : Act} {w : World}
theorem Rep.ev_ok (h : Rep C ρ nt sl en a w) (x : Operand) (u : SV) (hx : ev sl x = some u) : a.eval x = u.den ρ ∧ u.wf (· < en.length) := by
  cases x with
  | tmp t =>
    obtain ⟨h1, h2⟩ := h.tm t u hx
    exact ⟨by simp [Act.eval, Array.getD_eq_getD_getElem?, h1], h2⟩
  | const v => simp only [ev, Option.some.injEq] at hx; subst hx; exact ⟨by simp [Act.eval, SV.den, ofVal_den], ofVal_wf _ _⟩
  | global g => cases hx
  | func f => simp only [ev, Option.some.injEq] at hx; subst hx; exact ⟨rfl, trivial⟩
theorem Rep.evs_ok (h : Rep C ρ nt sl en a w) : ∀ (xs : List Operand) (us : List SV), qw sl xs = some us → xs.map a.eval = us.map (SV.den ρ) ∧ ∀ u ∈ us, u.wf (· < en.length)
  | [], us, hx => by simp [qw] at hx; subst hx; simp
  | x :: xs, us, hx => by
    simp only [qw] at hx
    split at hx <;> try cases hx
    rename_i v hv
    split at hx <;> simp only [Option.some.injEq, reduceCtorEq] at hx
    rename_i l hl
    subst hx
    obtain ⟨e1, e2⟩ := h.ev_ok x v hv
    obtain ⟨r1, r2⟩ := h.evs_ok xs l hl
    refine ⟨by simp [e1, r1], fun u hu => ?_⟩
    rcases List.mem_cons.1 hu with rfl | hu
    · exact e2
    · exact r2 u hu
theorem Rep.put (h : Rep C ρ nt sl en a w) {d : Nat} (hd : d < nt) {v : SV} (hv : v.wf (· < en.length)) : Rep C ρ nt ((d, v) :: sl) en (a.put (some d) (v.den ρ)) w := by
  refine ⟨h.hw, fun t u ht => ?_, by simpa [Act.put] using h.sz, h.df, h.n0⟩
  simp only [qy] at ht
  split at ht
  · rename_i e
    subst e
    simp only [Option.some.injEq] at ht
    subst ht
    refine ⟨?_, hv⟩
    simp [Act.put, h.sz, hd]
  · rename_i hne
    obtain ⟨h1, h2⟩ := h.tm t u ht
    refine ⟨?_, h2⟩
    simp [Act.put, hne, h1]
theorem Rep.lit (h : Rep C ρ nt sl en a w) {d : Nat} {v : SV} (hv : qy sl d = some v) : Rep C ρ nt ((d, v) :: sl) en a w := by
  refine ⟨h.hw, fun t u ht => ?_, h.sz, h.df, h.n0⟩
  simp only [qy] at ht
  split at ht
  · rename_i e
    subst e
    simp only [Option.some.injEq] at ht
    subst ht
    exact h.tm d v hv
  · exact h.tm t u ht
theorem getS_trim {kp : List Nat} : ∀ {sl : List (Nat × SV)} {d : Nat} {v : SV}, qy (zJ kp sl) d = some v → qy sl d = some v
  | [], d, v, h => by simp [zJ, qy] at h
  | (e, u) :: l, d, v, h => by
    simp only [zJ, cond_eq_ite] at h
    split at h
    · simp only [qy] at h ⊢
      split
      · rename_i he; simpa [he] using h
      · rename_i he; simp only [he, if_false] at h; exact getS_trim h
    · rename_i hm
      have h1 := getS_trim h
      simp only [qy]
      split
      · rename_i he
        subst he
        exfalso
        have gen : ∀ (l : List (Nat × SV)), qy (zJ kp l) e = some v → zI kp e = true := by
          intro l
          induction l with
          | nil => intro h; simp [zJ, qy] at h
          | cons x l ih =>
            obtain ⟨f, y⟩ := x
            intro h
            simp only [zJ, cond_eq_ite] at h
            split at h
            · rename_i hf
              simp only [qy] at h
              split at h
              · rename_i hfe; rw [← hfe]; exact hf
              · exact ih h
            · exact ih h
        exact hm (gen l h)
      · exact h1
theorem Rep.trim (h : Rep C ρ nt sl en a w) (kp : List Nat) : Rep C ρ nt (zJ kp sl) en a w := ⟨h.hw, fun d v hd => h.tm d v (getS_trim hd), h.sz, h.df, h.n0⟩
theorem Hw.lt {pr : Nat → Prop} (h : Hw C ρ pr en w) {c : Nat} (hc : pr c) (hl : deadE (ρ c) (zD en c) = false) : (ρ c).blk < w.heap.size := by
  cases hx : zD en c with
  | none => rw [hx] at hl; cases hl
  | some e =>
    cases e with
    | mk ty cells mu => exact (Array.getElem?_eq_some_iff.1 ((h.hp c ty cells mu hc hx).heap ((deadE_of hx).1 hl))).1
theorem Hw.same {pr : Nat → Prop} (h : Hw C ρ pr en w) {w' : World} (hb : Below w.heap.size w w') : Hw C ρ pr en w' := by
  refine ⟨fun c ty cells mu hc he => ?_, h.ho, h.inj, h.up.below hb, h.mu, h.ini⟩
  have h1 := h.hp c ty cells mu hc he
  exact ⟨fun hd => (hb.block _ (h.lt hc ((deadE_of he).2 hd))).trans (h1.heap hd), h1.wf, h1.dead, h1.non⟩
theorem Rep.same (h : Rep C ρ nt sl en a w) {w' : World} (hb : Below w.heap.size w w') : Rep C ρ nt sl en a w' := ⟨h.hw.same hb, h.tm, h.sz, h.df, h.n0⟩
def updR (ρ : Nat → RE) (c : Nat) (r : RE) : Nat → RE := fun d => if d = c then r else ρ d
theorem Rep.alloc (h : Rep C ρ nt sl en a w) (t : TypeId) (htd : t ≠ DEAD) {l : List SC} (hl : wfs (· < en.length) l) :
    Rep C (updR ρ en.length ⟨w.heap.size, [], [], 0, none⟩) nt sl (zF en ⟨(t, 0, whole), l, true⟩) a (w.alloc (.cells (dens ρ l).toArray t)) := by
  have hρ : ∀ c, c < en.length → updR ρ en.length ⟨w.heap.size, [], [], 0, none⟩ c = ρ c := fun c hc => if_neg (by omega)
  have hn : updR ρ en.length ⟨w.heap.size, [], [], 0, none⟩ en.length = ⟨w.heap.size, [], [], 0, none⟩ := if_pos rfl
  have hup : ∀ c, c < en.length → c < (zF en (⟨(t, 0, whole), l, true⟩ : EN)).length := by intro c hc; rw [snoc_eq]; simp; omega
  refine ⟨⟨?_, ?_, ?_, h.hw.up.alloc _, ?_, ?_⟩, ?_, h.sz, h.df, ?_⟩
  · intro c ty cells mu hc he
    rw [nthS_eq, snoc_eq] at he
    rw [snoc_eq] at hc
    simp only [List.length_append, List.length_singleton] at hc
    by_cases hce : c < en.length
    · rw [List.getElem?_append_left hce, ← nthS_eq] at he
      have h1 := h.hw.hp c ty cells mu hce he
      refine ⟨fun hd => ?_, wfs_mono h1.wf (fun c hc => hup c hc), h1.dead, by rw [hρ c hce]; exact h1.non⟩
      rw [hρ c hce] at hd
      rw [hρ c hce, dens_congr h1.wf (fun c hc => hρ c hc)]
      exact (Below.heap_alloc w _ _ (h.hw.lt hce ((deadE_of he).2 hd))).trans (h1.heap hd)
    · obtain rfl : c = en.length := by omega
      rw [List.getElem?_append_right (Nat.le_refl _)] at he
      simp at he
      obtain ⟨rfl, rfl, rfl⟩ := he
      refine ⟨fun _ => ?_, wfs_mono hl (fun c hc => hup c hc), fun hd => absurd hd htd, by rw [hn]; exact fun h => absurd rfl h⟩
      rw [hn, dens_congr hl (fun c hc => hρ c hc)]
      simpa using heap_alloc_new w (.cells (dens ρ l).toArray t)
  · intro c ty cells mu hc he
    rw [nthS_eq, snoc_eq] at he
    rw [snoc_eq] at hc
    simp only [List.length_append, List.length_singleton] at hc
    by_cases hce : c < en.length
    · rw [List.getElem?_append_left hce, ← nthS_eq] at he
      rw [hρ c hce]
      exact h.hw.ho c ty cells mu hce he
    · obtain rfl : c = en.length := by omega
      rw [List.getElem?_append_right (Nat.le_refl _)] at he
      simp at he
      obtain ⟨rfl, rfl, rfl⟩ := he
      rw [hn]; exact ⟨rfl, rfl, rfl⟩
  · intro c d hc hd hcl hdl hcd
    rw [snoc_eq] at hc hd
    rw [nthS_eq, snoc_eq] at hcl hdl
    simp only [List.length_append, List.length_singleton] at hc hd
    by_cases hce : c < en.length <;> by_cases hde : d < en.length
    · rw [List.getElem?_append_left hce, ← nthS_eq] at hcl
      rw [List.getElem?_append_left hde, ← nthS_eq] at hdl
      rw [hρ c hce, hρ d hde] at hcd; rw [hρ c hce] at hcl; rw [hρ d hde] at hdl; exact h.hw.inj c d hce hde hcl hdl hcd
    · obtain rfl : d = en.length := by omega
      rw [List.getElem?_append_left hce, ← nthS_eq] at hcl
      rw [hρ c hce, hn] at hcd
      rw [hρ c hce] at hcl
      have := h.hw.lt hce hcl
      simp only at hcd; omega
    · obtain rfl : c = en.length := by omega
      rw [List.getElem?_append_left hde, ← nthS_eq] at hdl
      rw [hρ d hde, hn] at hcd
      rw [hρ d hde] at hdl
      have := h.hw.lt hde hdl
      simp only at hcd; omega
    · omega
  · intro c ty cells hc he
    rw [nthS_eq, snoc_eq] at he
    rw [snoc_eq] at hc
    simp only [List.length_append, List.length_singleton] at hc
    by_cases hce : c < en.length
    · rw [List.getElem?_append_left hce, ← nthS_eq] at he
      rw [hρ c hce]
      exact h.hw.mu c ty cells hce he
    · obtain rfl : c = en.length := by omega
      rw [hn]
      exact .inr h.hw.up.size
  · intro c hc
    rw [hρ c (Nat.lt_of_lt_of_le hc h.n0)]
    exact h.hw.ini c hc
  · intro d v hd
    obtain ⟨h1, h2⟩ := h.tm d v hd
    rw [SV.den_congr h2 (fun c hc => hρ c hc)]
    exact ⟨h1, SV.wf_mono h2 (fun c hc => hup c hc)⟩
  · rw [snoc_eq]; have := h.n0; simp; omega
theorem one_of {x : SC} (h : q0t x = true) : (x.den ρ).oneCell' = true := by
  cases x with
  | rw c n => obtain ⟨q, k, hq⟩ := rwOf_sl (ρ c) n; simp [SC.den, hq, Value.oneCell']
  | v x => exact h
  | u => cases h
  | _ => rfl
theorem setN_len {α : Type} (l : List α) (n : Nat) (x : α) : (zE l n x).length = l.length := by rw [setN_eq]; simp
theorem Hw.store {pr : Nat → Prop} (h : Hw C ρ pr en w) (hpl : ∀ c, pr c → c < en.length) {c o : Nat} {ty : TypeId × Nat × (RE → Prop)} {cells vs l : List SC} (hc : pr c) (he : zD en c = some ⟨ty, cells, true⟩) (hl : zC o vs cells = some l) (hv : wfs pr vs) (h1 : ∀ v ∈ vs, q0t v = true) :
    ∃ w', (storeCells ⟨(ρ c).blk, (ρ c).pre.length + o, none⟩ (dens ρ vs)).run C.P w = .ok () w' ∧ Hw C ρ pr (zE en c ⟨ty, l, true⟩) w' := by
  have g0 := h.hp c ty cells true hc he
  have hnd1 : ty.1 ≠ DEAD := fun hd => by have := (g0.dead hd).2; cases this
  have g2 := g0.wf
  obtain ⟨e1, e2⟩ := layN_some hl
  have hlen : o + vs.length ≤ cells.length := by
    rcases e2 with e2 | ⟨rfl, e2⟩
    · exact e2
    · simpa using e2
  by_cases hnl : (ρ c).nl = none
  case neg =>
    have hc0 := g0.non hnl
    subst hc0
    have hv0 : vs = [] := List.length_eq_zero_iff.1 (by rw [List.length_nil] at hlen; omega)
    subst hv0
    have hl0 : l = [] := by rw [e1]; simp
    subst hl0
    have hsame : zE en c ⟨ty, [], true⟩ = en := by
      rw [setN_eq]
      rw [nthS_eq] at he
      obtain ⟨hcl, he'⟩ := List.getElem?_eq_some_iff.1 he
      rw [← he', List.set_getElem_self]
    rw [hsame]
    exact ⟨w, by simp [dens, storeCells], h⟩
  have hnd : ty.1 ≠ DEAD ∧ (ρ c).nl = none := ⟨hnd1, hnl⟩
  have g1 := g0.heap hnd
  have hst := run_storeCells_at C.P (ρ c).blk ((ρ c).pre.length + o) ty.1 (dens ρ vs) 0 _ w g1 (by simp [dens]; omega) (by
    intro v hv'
    obtain ⟨x, hx, rfl⟩ := List.mem_map.1 hv'
    exact one_of (h1 x hx))
  refine ⟨_, hst, ?_⟩
  have hrow : ((ρ c).pre ++ dens ρ cells ++ (ρ c).post).take ((ρ c).pre.length + o) ++ dens ρ vs ++ ((ρ c).pre ++ dens ρ cells ++ (ρ c).post).drop ((ρ c).pre.length + o + (dens ρ vs).length) = (ρ c).pre ++ dens ρ l ++ (ρ c).post := by
    rw [e1]
    have d1 : dens ρ (cells.take o ++ vs ++ cells.drop (o + vs.length)) = (dens ρ cells).take o ++ dens ρ vs ++ (dens ρ cells).drop (o + vs.length) := by simp [dens, List.map_take, List.map_drop]
    rw [d1]
    have l1 : (dens ρ cells).length = cells.length := dens_len _
    have l2 : (dens ρ vs).length = vs.length := dens_len _
    generalize (ρ c).pre = p, (ρ c).post = q at *
    generalize dens ρ cells = x, dens ρ vs = y at *
    rw [List.append_assoc p x q, List.take_append, List.drop_append]
    simp only [Nat.add_sub_cancel_left, List.take_of_length_le (show p.length ≤ p.length + o by omega), List.drop_of_length_le (show p.length ≤ p.length + o + y.length by omega), List.nil_append]
    rw [List.take_append_of_le_length (by omega), show p.length + o + y.length - p.length = o + vs.length by omega, List.drop_append_of_le_length (by omega)]
    simp [List.append_assoc]
  have hwf : wfs pr l := by
    intro x hx
    rw [e1] at hx
    simp only [List.mem_append] at hx
    rcases hx with (hx | hx) | hx
    · exact g2 x (List.mem_of_mem_take hx)
    · exact hv x hx
    · exact g2 x (List.mem_of_mem_drop hx)
  refine ⟨?_, ?_, ?_, ?_, ?_, h.ini⟩
  · intro d ty' cells' mu' hd hd'
    rw [nthS_eq, setN_eq] at hd'
    by_cases hdc : d = c
    · subst hdc
      rw [List.getElem?_set_self (hpl d hd)] at hd'
      simp only [Option.some.injEq, EN.mk.injEq] at hd'
      obtain ⟨rfl, rfl, _⟩ := hd'
      refine ⟨fun _ => ?_, hwf, fun hd => absurd hd hnd1, fun hx => absurd hnl hx⟩
      rw [← hrow]
      have := setRow_heap w (ρ d).blk _ (((ρ d).pre ++ dens ρ cells ++ (ρ d).post).take ((ρ d).pre.length + o) ++ dens ρ vs ++ ((ρ d).pre ++ dens ρ cells ++ (ρ d).post).drop ((ρ d).pre.length + o + (dens ρ vs).length)).toArray ty.1 (0, 0) g1
      simpa using this
    · rw [List.getElem?_set_ne (fun e => hdc e.symm), ← nthS_eq] at hd'
      have k1 := h.hp d ty' cells' mu' hd hd'
      exact ⟨fun hx => (setRow_other w _ _ _ (fun e => hdc (h.inj d c hd hc ((deadE_of hd').2 hx) ((deadE_of he).2 hnd) e))).trans (k1.heap hx), k1.wf, k1.dead, k1.non⟩
  · intro d ty' cells' mu' hd hd'
    rw [nthS_eq, setN_eq] at hd'
    by_cases hdc : d = c
    · subst hdc
      rw [List.getElem?_set_self (hpl d hd)] at hd'
      simp only [Option.some.injEq, EN.mk.injEq] at hd'
      obtain ⟨rfl, _, _⟩ := hd'
      exact h.ho d ty cells true hd he
    · rw [List.getElem?_set_ne (fun e => hdc e.symm), ← nthS_eq] at hd'
      exact h.ho d ty' cells' mu' hd hd'
  · intro x y hx hy hxl hyl hxy
    have hl : ∀ z, deadE (ρ z) (zD (zE en c ⟨ty, l, true⟩) z) = deadE (ρ z) (zD en z) := fun z => by
      rw [nthS_eq, setN_eq]
      by_cases hzc : z = c
      · subst hzc
        rw [List.getElem?_set_self (hpl z hc), he]
        rfl
      · rw [List.getElem?_set_ne (fun e => hzc e.symm), nthS_eq]
    rw [hl] at hxl hyl
    exact h.inj x y hx hy hxl hyl hxy
  · refine h.up.setRow (fun hlt => ?_) _
    rcases h.mu c ty cells hc he with hm | hm
    · exact hm
    · omega
  · intro d ty' cells' hd hd'
    rw [nthS_eq, setN_eq] at hd'
    by_cases hdc : d = c
    · subst hdc; exact h.mu d ty cells hd he
    · rw [List.getElem?_set_ne (fun e => hdc e.symm), ← nthS_eq] at hd'
      exact h.mu d ty' cells' hd hd'
theorem Rep.setE (h : Rep C ρ nt sl en a w) {c : Nat} {e : EN} {w' : World} (hw : Hw C ρ (· < en.length) (zE en c e) w') : Rep C ρ nt sl (zE en c e) a w' := by
  have hl : (zE en c e).length = en.length := setN_len _ _ _
  refine ⟨?_, ?_, h.sz, h.df, ?_⟩
  · rw [hl]; exact hw
  · rw [hl]; exact h.tm
  · rw [hl]; exact h.n0
theorem cells_ok {v : SV} {l : List SC} (h : qv v = some l) : (v.den ρ).cells = (dens ρ l).toArray ∧ (∀ x ∈ l, q0t x = true) ∧ (∀ pr, v.wf pr → wfs pr l) := by
  cases v with
  | c x =>
    simp only [qv, cond_eq_ite] at h
    split at h <;> simp only [Option.some.injEq, reduceCtorEq] at h
    rename_i hx
    subst h
    exact ⟨one_cells hx, fun y hy => by rw [List.mem_singleton.1 hy]; exact hx, fun pr hp y hy => by rw [List.mem_singleton.1 hy]; exact hp⟩
  | g l' =>
    simp only [qv, cond_eq_ite] at h
    split at h <;> simp only [Option.some.injEq, reduceCtorEq] at h
    rename_i hx
    subst h
    exact ⟨rfl, onesS_mem hx, fun pr hp => hp⟩
  | t l => cases h
variable {K : Act → World → Prop} {Q : Exit → Act → World → Prop}
theorem wp_value {o : Oper} {v : Value} (h : (execOp a.eval o).run C.P w = .ok (.value v) w) (hk : K (a.put o.dst v) w) : o.wp C.P a w K Q := by
  unfold Oper.wp; rw [h]; exact hk
theorem putK_ok {Kp : List (Nat × SV) → List EN → Prop} {stop : Prop} {dst : Option Nat} {v : SV} (h : qI nt Kp stop dst v sl en) (hr : Rep C ρ nt sl en a w) (hv : v.wf (· < en.length)) :
    stop ∨ ∃ sl', Kp sl' en ∧ Rep C ρ nt sl' en (a.put dst (v.den ρ)) w := by
  cases dst with
  | none => exact .inr ⟨sl, h, hr⟩
  | some d =>
    simp only [qI] at h
    split at h
    · rename_i hd; exact .inr ⟨_, h, hr.put hd hv⟩
    · exact .inl h
theorem zero_wf (pr : Nat → Prop) (l : List Value) : wfs pr (l.map qz) := by
  intro q hq
  obtain ⟨u, _, rfl⟩ := List.mem_map.1 hq
  exact ofVal_wf _ _
theorem zero_den (ρ : Nat → RE) (l : List Value) : dens ρ (l.map qz) = l := by
  unfold dens
  rw [List.map_map]
  have : (SC.den ρ ∘ qz) = id := funext fun x => ofVal_den ρ x
  rw [this, List.map_id]
theorem ti_dead {P : Program} {t : TypeId} {ti : TI} (h : tiOf P t = some ti) : t ≠ DEAD := fun e => by
  rw [e] at h
  have : tiOf P DEAD = none := tiOf_dead P
  rw [this] at h; cases h
theorem run_new_ (P : Program) (w : World) (o : Obj) : (Sem.new o Sem.pure : Sem Nat).run P w = .ok w.heap.size (w.alloc o) := rfl
theorem opK_ok {ctr : Ctr} (hctr : CtrOk C ctr) {Kp : List (Nat × SV) → List EN → Prop} {stop : Prop} {o : Oper} (h : qH C.P C.rd ctr nt Kp stop o.dst sl en o.op) (hr : Rep C ρ nt sl en a w)
    (hK : ∀ sl' en' ρ' a' w', Kp sl' en' → Rep C ρ' nt sl' en' a' w' → K a' w') : stop ∨ o.wp C.P a w K Q := by
  have soft : ∀ op, o.op = op → (match qK C.P C.rd en (ev sl) op with
      | some (p, v) => p ∧ qI nt Kp stop o.dst v sl en
      | none => stop) → stop ∨ o.wp C.P a w K Q := by
    intro op ho hs
    split at hs
    · rename_i p v hsv
      obtain ⟨hp, hk⟩ := hs
      obtain ⟨r1, r2⟩ := softS_ok ho hsv hp (fun x u hx => hr.ev_ok x u hx) (rd_ok hr.hw.up) hr.hw.hp hr.hw.ho
      rcases putK_ok hk hr r2 with hst | ⟨sl', hk', hr'⟩
      · exact .inl hst
      · exact .inr (wp_value r1 (hK _ _ _ _ _ hk' hr'))
    · exact .inl hs
  generalize hop : o.op = op at h
  unfold qH at h
  split at h
  · rename_i t
    split at h
    · rename_i sz ag z fs el es kd ik ht
      obtain ⟨i, d, zv, fs', e', hi, hu, hz, _, _, hti⟩ := tiOf_some ht
      simp only [TI.mk.injEq] at hti
      obtain ⟨_, _, rfl, _⟩ := hti
      rw [lenN_eq] at h
      have hal := hr.alloc t (ti_dead ht) (zero_wf (· < en.length) zv.cells.toList)
      have hlen : en.length < (zF en (⟨(t, 0, whole), zv.cells.toList.map qz, true⟩ : EN)).length := by rw [snoc_eq]; simp
      rcases putK_ok h hal (v := .c (.p en.length 0)) hlen with hst | ⟨sl', hk', hr'⟩
      · exact .inl hst
      · right
        unfold Oper.wp
        have hrun : (execOp a.eval o).run C.P w = .ok (.value (.pointer (some ⟨w.heap.size, 0, none⟩))) (w.alloc (.cells zv.cells t)) := by
          simp [execOp, hop, Instr.alloc, zeroValue, typeInfo, hi, hz, newVar, newRow, newObj, run_new_]
        rw [hrun]
        have hd : (SV.c (SC.p en.length 0)).den (updR ρ en.length ⟨w.heap.size, [], [], 0, none⟩) = .pointer (some ⟨w.heap.size, 0, none⟩) := by simp [SV.den, SC.den, ptrOf, updR]
        rw [hd, zero_den] at hr'
        exact hK _ _ _ _ _ hk' hr'
    · exact .inl h
  · rename_i t x
    split at h
    · rename_i v hv
      split at h
      · rename_i l hl
        obtain ⟨e1, e2⟩ := hr.ev_ok x v hv
        obtain ⟨c1, c2, c3⟩ := cells_ok (ρ := ρ) hl
        split at h
        · exact .inl h
        rename_i htd
        rw [lenN_eq] at h
        have hal := hr.alloc t htd (c3 _ e2)
        have hlen : en.length < (zF en (⟨(t, 0, whole), l, true⟩ : EN)).length := by rw [snoc_eq]; simp
        rcases putK_ok h hal (v := .c (.p en.length 0)) hlen with hst | ⟨sl', hk', hr'⟩
        · exact .inl hst
        · right
          unfold Oper.wp
          have hrun : (execOp a.eval o).run C.P w = .ok (.value (.pointer (some ⟨w.heap.size, 0, none⟩))) (w.alloc (.cells (dens ρ l).toArray t)) := by
            simp [execOp, hop, Instr.box, newVar, newRow, newObj, run_new_, e1, c1]
          rw [hrun]
          have hd : (SV.c (SC.p en.length 0)).den (updR ρ en.length ⟨w.heap.size, [], [], 0, none⟩) = .pointer (some ⟨w.heap.size, 0, none⟩) := by simp [SV.den, SC.den, ptrOf, updR]
          rw [hd] at hr'
          exact hK _ _ _ _ _ hk' hr'
      · exact .inl h
    · exact .inl h
  · rename_i t n ps
    split at h
    · rename_i el l hl
      obtain ⟨b1, b2, b3⟩ := buildSl_ok (w := w) hl (fun x _ u hx => hr.ev_ok x.2 u hx)
      rw [lenN_eq] at h
      have hal := hr.alloc el b1 b2
      have hlen : en.length < (zF en (⟨(el, 0, whole), l, true⟩ : EN)).length := by rw [snoc_eq]; simp
      rcases putK_ok h hal (v := .c (.sl en.length 0 n n)) hlen with hst | ⟨sl', hk', hr'⟩
      · exact .inl hst
      · right
        unfold Oper.wp
        have hps : (ps.map fun x => (x.1, a.eval x.2)) = (ps.toList.map fun x => (x.1, a.eval x.2)).toArray := by
          apply Array.toList_inj.1; simp
        have hrun : (execOp a.eval o).run C.P w = .ok (.value (.slice (some ⟨w.heap.size, 0, none⟩) n n)) (w.alloc (.cells (dens ρ l).toArray el)) := by
          simp [execOp, hop]
          rw [hps, b3]
          simp
        rw [hrun]
        have hd : (SV.c (SC.sl en.length 0 n n)).den (updR ρ en.length ⟨w.heap.size, [], [], 0, none⟩) = .slice (some ⟨w.heap.size, 0, none⟩) n n := by simp [SV.den, SC.den, updR]
        rw [hd] at hr'
        exact hK _ _ _ _ _ hk' hr'
    · exact .inl h
  · rename_i t x y
    split at h
    · rename_i hdst
      unfold qJ at h
      split at h
      · rename_i sz ag z fs el es kd ik c off v ht hx hy
        split at h
        · rename_i ty cells he
          split at h
          · rename_i vs hvs
            split at h
            · rename_i hsz
              split at h
              · rename_i l hl
                right
                obtain ⟨i, d, zv, fs', e', hi, hu, hz, _, _, hti⟩ := tiOf_some ht
                simp only [TI.mk.injEq] at hti
                obtain ⟨rfl, _⟩ := hti
                obtain ⟨e1, e2⟩ := hr.ev_ok _ _ hx
                obtain ⟨f1, f2⟩ := hr.ev_ok _ _ hy
                obtain ⟨c1, c2, c3⟩ := cells_ok (ρ := ρ) hvs
                obtain ⟨w', hrun, hw'⟩ := hr.hw.store (fun _ h => h) e2 he hl (c3 _ f2) c2
                unfold Oper.wp
                have hsz' : (dens ρ vs).length = i.size := by rw [← hsz, lenN_eq, dens_len]
                have hx' : (execOp a.eval o).run C.P w = .ok .skip w' := by
                  have e1' : a.eval x = .pointer (some ⟨(ρ c).blk, (ρ c).pre.length + off, none⟩) := e1
                  simp [execOp, hop, Instr.storeAt, Instr.sureAddr, e1', f1, storeVar, run_sizeOf hi, hsz', c1, hrun]
                rw [hx']
                simp only [Oper.upon, hdst]
                exact hK _ _ _ _ _ h (hr.setE hw')
              · exact .inl h
            · exact .inl h
          · exact .inl h
        · exact .inl h
      · exact .inl h
    · exact .inl h
  · rename_i f args tys
    split at h
    · rename_i xs hxs
      split at h
      · rename_i p v hc
        obtain ⟨hp, hk⟩ := h
        obtain ⟨g1, g2⟩ := hr.evs_ok _ _ hxs
        obtain ⟨k1, k2, k3⟩ := hctr f en xs p v hc hp ρ w hr.hw.up hr.hw.hp hr.hw.ho hr.hw.inj g2
        have hargs : args.map a.eval = (xs.map (SV.den ρ)).toArray := by apply Array.toList_inj.1; simpa using g1
        have hx' : (execOp a.eval o).run C.P w = .ok (.enter f (xs.map (SV.den ρ)).toArray) w := by
          simp [execOp, hop, resolve, Act.eval, Deferred.ofValue, invoke, hargs, k1]
        rcases putK_ok hk hr k2 with hst | ⟨sl', hk', hr'⟩
        · exact .inl hst
        · right
          unfold Oper.wp
          rw [hx']
          simp only [Oper.upon]
          refine k3.mono ?_
          rintro e w' ⟨rfl, hb⟩
          exact hK _ _ _ _ _ hk' (hr'.same hb)
      · exact .inl h
    · exact .inl h
  · exact soft _ hop h
theorem teS_sv {v : SV} {t : TE} (h : qF v = some t) : t.sv = v := by cases v <;> simp_all [qF] <;> subst h <;> rfl
theorem teS_wf {v : SV} {t : TE} {pr : Nat → Prop} (h : qF v = some t) (hv : v.wf pr) : t.wf pr := by cases v <;> simp_all [qF] <;> subst h <;> exact hv
theorem Rep.res (h : Rep C ρ nt sl en a w) : ∀ (rs : List ResultVar) (l : List TE), qE C.P sl en rs = some l → (rs.mapM (resG a.tmps)).run C.P w = .ok (l.map (TE.den ρ)) w ∧ ∀ x ∈ l, x.wf (· < en.length)
  | [], l, hl => by simp [qE] at hl; subst hl; simp
  | .tmp t :: r, l, hl => by
    simp only [qE] at hl
    split at hl <;> try cases hl
    rename_i v hv
    split at hl <;> try cases hl
    rename_i x hx
    split at hl <;> simp only [Option.some.injEq, reduceCtorEq] at hl
    rename_i l' hl'
    subst hl
    obtain ⟨h1, h5⟩ := h.tm t v hv
    have h2 : v.den ρ = x.den ρ := by rw [← TE.den_sv, teS_sv hx]
    obtain ⟨h6, h7⟩ := h.res r l' hl'
    refine ⟨by simp [List.mapM_cons, resG, Array.getD_eq_getD_getElem?, h1, h2, h6], fun y hy => ?_⟩
    rcases List.mem_cons.1 hy with rfl | hy
    · exact teS_wf hx h5
    · exact h7 y hy
  | .cell b t :: r, l, hl => by
    simp only [qE] at hl
    split at hl <;> try cases hl
    rename_i p v hv
    split at hl <;> try cases hl
    rename_i x hx
    split at hl <;> simp only [Option.some.injEq, reduceCtorEq] at hl
    rename_i l' hl'
    subst hl
    cases hb : qy sl b with
    | none => rw [hb] at hv; simp [qP] at hv
    | some u =>
      rw [hb] at hv
      obtain ⟨h1, h2⟩ := h.tm b u hb
      obtain ⟨r1, r2⟩ := load_ok hv h2 (noRd_ok w) h.hw.hp
      have hp : ∃ c o, u = .c (.p c o) := by
        unfold qP at hv
        split at hv
        · simp [noRd] at hv
        · simp [noRd] at hv
        · rename_i q _; cases q; exact ⟨_, _, rfl⟩
        · rename_i q _; cases q; exact ⟨_, _, rfl⟩
        · cases hv
      obtain ⟨c, o, rfl⟩ := hp
      have h3 : v.den ρ = x.den ρ := by rw [← TE.den_sv, teS_sv hx]
      rw [h3] at r1
      have h4 : (SV.c (SC.p c o)).den ρ = .pointer (some ⟨(ρ c).blk, (ρ c).pre.length + o, none⟩) := rfl
      rw [h4] at r1 h1
      simp only [Instr.loadAt, Instr.sureAddr] at r1
      simp at r1
      obtain ⟨h6, h7⟩ := h.res r l' hl'
      refine ⟨by simp [List.mapM_cons, resG, Array.getD_eq_getD_getElem?, h1, asAddr, r1, h6], fun y hy => ?_⟩
      rcases List.mem_cons.1 hy with rfl | hy
      · exact teS_wf hx r2
      · exact h7 y hy
theorem Rep.resOk {fn : Func} (h : Rep C ρ nt sl en a w) {l : List TE} (hl : qE C.P sl en fn.results.toList = some l) : (results fn a.tmps).run C.P w = .ok ((qG l).den ρ) w ∧ ∀ x ∈ l, x.wf (· < en.length) := by
  obtain ⟨h1, h9⟩ := h.res _ _ hl
  refine ⟨?_, h9⟩
  have h0 : results fn a.tmps = (do
    let vs ← fn.results.mapM (resG a.tmps)
    pure (if h : vs.size = 1 then vs[0] else .tuple vs)) := by
    unfold results
    congr 2
  rw [h0]
  simp only [Array.mapM_eq_mapM_toList, Sem.run_bind, Sem.run_map, h1]
  cases l with
  | nil => simp [qG, SV.den]
  | cons x l =>
    cases l with
    | nil => simp [qG, TE.den_sv]
    | cons y l => simp [qG, SV.den]
theorem KQ_ret : ∀ (k : List KI) (a : Act) (w : World), C.Q .ret a w → KQ C k .ret a w
  | [], _, _, h => h
  | .code _ :: k, _, _, h => KQ_ret k _ _ h
  | .blk _ :: k, _, _, h => KQ_ret k _ _ h
  | .ops _ _ :: k, _, _, h => KQ_ret k _ _ h
theorem resV_wf {l : List TE} {pr : Nat → Prop} (h : ∀ x ∈ l, x.wf pr) : (qG l).wf pr := by
  unfold qG
  split
  · exact TE.wf_sv (h _ (by simp))
  · exact h
theorem unw_ok {id : Nat} : ∀ {k k' : List KI}, zH id k = some k' → ∀ a w, KQ C k' .normal a w → KQ C k (.exit id) a w
  | [], k', h, a, w, hq => by cases h
  | .blk i :: k, k', h, a, w, hq => by
    simp only [zH] at h
    simp only [KQ, Exit.inBlock]
    split at h
    · rename_i hi
      simp only [Option.some.injEq] at h
      subst h
      rw [if_pos hi]; exact hq
    · rename_i hi
      rw [if_neg hi]
      exact unw_ok h a w hq
  | .code c :: k, k', h, a, w, hq => unw_ok (k := k) h a w hq
  | .ops all r :: k, k', h, a, w, hq => unw_ok (k := k) h a w hq
theorem KQ_ops (all r : List Oper) (k : List KI) : KQ C (.ops all r :: k) .normal a w = wpList C.P all.toArray (KQ C k) r a w := by simp only [KQ, Exit.then]
theorem VC_ok {ctr : Ctr} (hctr : CtrOk C ctr) {rs : List ResultVar} : ∀ (n : Nat) (k : List KI) (sl : List (Nat × SV)) (en : List EN), VC C ctr rs n k nt sl en → Run C k nt sl en
  | 0, k, sl, en, h => h
  | n + 1, [], sl, en, h => h
  | n + 1, .blk id :: k, sl, en, h => fun ρ a w hr => VC_ok hctr n k sl en h ρ a w hr
  | n + 1, .ops all [] :: k, sl, en, h => fun ρ a w hr => VC_ok hctr n k _ en h ρ a w (hr.trim _)
  | n + 1, .ops all (⟨dst, op, ty, pos, af, none⟩ :: r) :: k, sl, en, h => fun ρ a w hr => by
    rcases opK_ok hctr (o := ⟨dst, op, ty, pos, af, none⟩) (K := wpList C.P all.toArray (KQ C k) r) (Q := KQ C k) h hr (fun sl' en' ρ' a' w' hk hr' => VC_ok hctr n _ sl' en' hk ρ' a' w' hr') with hst | hwp
    · exact hst ρ a w hr
    · rw [KQ_ops]
      unfold wpList
      rw [if_pos (by simp [Region.wanted])]
      exact .inl hwp
  | n + 1, .ops all (⟨dst, op, ty, pos, af, some (j, b)⟩ :: r) :: k, sl, en, h => fun ρ a w hr => by
    have skip : ∀ sl', Rep C ρ nt sl' en a w → Region.wanted ⟨dst, op, ty, pos, af, some (j, b)⟩ (yielded all.toArray a.tmps) = false →
        qI nt (VC C ctr rs n (.ops all r :: k) nt) (Run C (.ops all (⟨dst, op, ty, pos, af, some (j, b)⟩ :: r) :: k) nt sl en) dst (.c .u) sl' en → KQ C (.ops all (⟨dst, op, ty, pos, af, some (j, b)⟩ :: r) :: k) .normal a w := by
      intro sl' hr' hw hp
      rcases putK_ok hp hr' (v := .c .u) trivial with hst | ⟨sl'', hk, hr''⟩
      · exact hst ρ a w hr
      · rw [KQ_ops]
        unfold wpList
        rw [if_neg (by rw [hw]; simp)]
        exact VC_ok hctr n _ sl'' en hk ρ _ w hr''
    simp only [VC] at h
    split at h <;> try exact h ρ a w hr
    rename_i d _ _ _ _ _ hj
    rw [nthS_eq] at hj
    have hy : ∀ v, a.tmps[d]? = some v → yielded all.toArray a.tmps j = (match v with | .bool b => some b | _ => none) := by
      intro v hv
      simp only [yielded, List.getElem?_toArray, hj, Option.bind_some, hv]
      cases v <;> rfl
    split at h <;> try exact h ρ a w hr
    · rename_i x hx
      have h1 := (hr.tm d _ hx).1
      have h2 := hy _ h1
      obtain ⟨ha, hb⟩ := h
      by_cases hxb : x = b
      · subst hxb
        rcases opK_ok hctr (o := ⟨dst, op, ty, pos, af, some (j, x)⟩) (K := wpList C.P all.toArray (KQ C k) r) (Q := KQ C k) (ha rfl) (hr.lit hx) (fun sl' en' ρ' a' w' hk hr' => VC_ok hctr n _ sl' en' hk ρ' a' w' hr') with hst | hwp
        · exact hst ρ a w (hr.lit hx)
        · rw [KQ_ops]
          unfold wpList
          rw [if_pos (by simp [Region.wanted, h2, SV.den, SC.den])]
          exact .inl hwp
      · have hxb' : x = !b := by cases x <;> cases b <;> simp_all
        refine skip _ (by rw [← hxb']; exact hr.lit hx) ?_ (hb hxb')
        simp [Region.wanted, h2, SV.den, SC.den, hxb']
    · rename_i hx
      have h1 := (hr.tm d _ hx).1
      have h2 := hy _ h1
      refine skip _ hr ?_ h
      simp [Region.wanted, h2, SV.den, SC.den, undef]
  | n + 1, .code .skip :: k, sl, en, h => fun ρ a w hr => wp_skip (VC_ok hctr n k sl en h ρ a w hr)
  | n + 1, .code (.seq x y) :: k, sl, en, h => fun ρ a w hr => wp_seq (VC_ok hctr n (.code x :: .code y :: k) sl en h ρ a w hr)
  | n + 1, .code (.block id c) :: k, sl, en, h => fun ρ a w hr => wp_block (VC_ok hctr n (.code c :: .blk id :: k) sl en h ρ a w hr)
  | n + 1, .code (.exit id) :: k, sl, en, h => fun ρ a w hr => by
    simp only [VC] at h
    split at h
    · rename_i k' hk
      exact wp_exit (unw_ok hk a w (VC_ok hctr n k' sl en h ρ a w hr))
    · exact h ρ a w hr
  | n + 1, .code (.cond c x y) :: k, sl, en, h => fun ρ a w hr => by
    simp only [VC] at h
    split at h <;> try exact h ρ a w hr
    rename_i t ht
    obtain ⟨e1, _⟩ := hr.ev_ok _ _ ht
    refine wp_cond (t := t) e1 ?_
    cases t with
    | true => exact VC_ok hctr n (.code x :: k) sl en (h.1 rfl) ρ a w hr
    | false => exact VC_ok hctr n (.code y :: k) sl en (h.2 rfl) ρ a w hr
  | n + 1, .code (.region id ops draw) :: k, sl, en, h => fun ρ a w hr => by
    cases draw with
    | true => exact h ρ a w hr
    | false => exact wp_region_list (VC_ok hctr n (.ops ops.toList ops.toList :: k) sl en h ρ a w hr)
  | n + 1, .code (.loop c) :: k, sl, en, h => h
  | n + 1, .code (.rangeFunc _ _ _ _) :: k, sl, en, h => h
  | n + 1, .code (.scope _) :: k, sl, en, h => h
  | n + 1, .code (.label _) :: k, sl, en, h => h
  | n + 1, .code (.goto _) :: k, sl, en, h => h
  | n + 1, .code .ret :: k, sl, en, h => fun ρ a w hr => by
    simp only [VC] at h
    split at h
    · rename_i l hl
      refine wp_ret (KQ_ret k a w (h ρ a w hr.hw hr.n0 ?_ hr.df fun fn hfn => ?_))
      · exact resV_wf (hr.res _ _ hl).2
      · subst hfn; exact (hr.resOk hl).1
    · exact h ρ a w hr
  | n + 1, .code (.refuse _) :: k, sl, en, h => h
end
end Go.Proofs.YtehfcboiimdkbaaGreatDoor
/- The symbolic walk of a whole function: its beginning, its end, and calls that are met by hand. -/
namespace Go.Proofs.YtehfcboiimdkbaaGreatDoor
set_option linter.unusedSimpArgs false
set_option linter.unusedVariables false
open Go.RowKit
def zK : Nat → List SV → List (Nat × SV)
  | _, [] => []
  | k, v :: l => (k, v) :: zK (k + 1) l
theorem getS_arg : ∀ {l : List SV} {k d : Nat} {v : SV}, qy (zK k l) d = some v → k ≤ d ∧ l[d - k]? = some v
  | [], k, d, v, h => by simp [zK, qy] at h
  | x :: l, k, d, v, h => by
    simp only [zK, qy] at h
    split at h
    · rename_i e; subst e; simp only [Option.some.injEq] at h; subst h; simp
    · rename_i hne
      obtain ⟨h1, h2⟩ := getS_arg h
      refine ⟨by omega, ?_⟩
      rw [show d - k = (d - (k + 1)) + 1 by omega]
      simpa using h2
section
variable {C : Cx} {ρ : Nat → RE} {nt : Nat} {sl : List (Nat × SV)} {en : List EN} {a : Act} {w : World}
theorem KQ_panic : ∀ (k : List KI) (ch : List PanicEntry) (a : Act) (w : World), C.Q (.panic ch) a w → KQ C k (.panic ch) a w
  | [], _, _, _, h => h
  | .code _ :: k, _, _, _, h => KQ_panic k _ _ _ h
  | .blk _ :: k, _, _, _, h => KQ_panic k _ _ _ h
  | .ops _ _ :: k, _, _, _, h => KQ_panic k _ _ _ h
structure At (S : Nat → Prop) (ρ : Nat → RE) (en : List EN) (w : World) : Prop where
  hp : Hp ρ (· < en.length) en w
  ho : Ho ρ (· < en.length) en
  inj : Inj ρ (· < en.length) en
  mu : ∀ c ty cells, c < en.length → zD en c = some ⟨ty, cells, true⟩ → S (ρ c).blk
def zL (P : Program) (fn : Func) (R : Ending → World → Prop) (S : Nat → Prop) (w0 : World) (ρ0 : Nat → RE) (n0 : Nat) (kp : List Nat) : Cx := ⟨P, bodyPost P fn R, S, w0, ρ0, n0, kp, []⟩
theorem calls_of_Run {P : Program} {f : FuncId} {fn : Func} {c : Code} {R : Ending → World → Prop} (hf : P.funcs[f]? = some fn) (hb : fn.body = some c) {S : Nat → Prop} (kp : List Nat) (args : List SV) (hn : fn.ntmps = nt)
    (hat : At S ρ en w) (hargs : ∀ x ∈ args, x.wf (· < en.length)) (hlen : args.length ≤ nt)
    (h : ∀ C, C = zL P fn R S w ρ en.length kp → C.P = P → C.kp = kp → Run C [.code c] nt (zK 0 args) en) : Calls P f (args.map (SV.den ρ)).toArray w R := by
  refine calls_of_wp hf hb ?_
  refine h _ rfl rfl rfl ρ _ w ⟨⟨hat.hp, hat.ho, hat.inj, Upd.refl _ _, fun c ty cells hc he => .inl (hat.mu c ty cells hc he), fun c _ => rfl⟩, ?_, ?_, rfl, Nat.le_refl _⟩
  · intro d v hd
    obtain ⟨h1, h2⟩ := getS_arg hd
    simp only [Nat.sub_zero] at h2
    have hl := (List.getElem?_eq_some_iff.1 h2).1
    refine ⟨?_, hargs v (List.mem_of_getElem? h2)⟩
    rw [Array.getElem?_append_left (by simpa using hl)]
    simp [h2]
  · simp [hn]; omega
structure Ctx (C : Cx) (P : Program) (fn : Func) (R : Ending → World → Prop) : Prop where
  p : C.P = P
  ret : ∀ a w, bodyPost P fn R .ret a w → C.Q .ret a w
  df : C.df = []
theorem Fin_of {P : Program} {fn : Func} {R : Ending → World → Prop} (hC : Ctx C P fn R) {rs : List ResultVar} (hrs : fn.results.toList = rs) {v : SV} (h : ∀ ρ w, Hw C ρ (· < en.length) en w → C.n0 ≤ en.length → v.wf (· < en.length) → R (.returned (v.den ρ)) w) : Fin C rs v en := by
  intro ρ a w hw hn hv hd hr
  refine hC.ret a w ⟨hd.trans hC.df, _, ?_, h ρ w hw hn hv⟩
  rw [← hC.p]
  exact hr fn hrs
theorem ctx_of {P : Program} {fn : Func} {R : Ending → World → Prop} {S : Nat → Prop} {w0 : World} {ρ0 : Nat → RE} {n0 : Nat} {kp : List Nat} : Ctx (zL P fn R S w0 ρ0 n0 kp) P fn R := ⟨rfl, fun _ _ h => h, rfl⟩
def lpC (C : Cx) (k : List KI) (J : Act → World → Prop) : Cx := ⟨C.P, Exit.then J (KQ C k), C.S, C.w0, C.ρ0, C.n0, C.kp, C.df⟩
theorem Hw.toC {C D : Cx} {ρ : Nat → RE} {pr : Nat → Prop} {en : List EN} {w : World} (h : Hw C ρ pr en w) (hS : D.S = C.S) (hw : D.w0 = C.w0) (hρ : D.ρ0 = C.ρ0) (hn : D.n0 = C.n0) : Hw D ρ pr en w :=
  ⟨h.hp, h.ho, h.inj, by rw [hS, hw]; exact h.up, by rw [hS, hw]; exact h.mu, by rw [hρ, hn]; exact h.ini⟩
theorem Rep.toC {C D : Cx} (h : Rep C ρ nt sl en a w) (hS : D.S = C.S) (hw : D.w0 = C.w0) (hρ : D.ρ0 = C.ρ0) (hn : D.n0 = C.n0) (hd : D.df = C.df) : Rep D ρ nt sl en a w :=
  ⟨h.hw.toC hS hw hρ hn, h.tm, h.sz, h.df.trans hd.symm, by rw [hn]; exact h.n0⟩
def sub (s t : List (Nat × SV)) : Prop := ∀ d v, qy s d = some v → qy t d = some v
theorem Rep.less {s : List (Nat × SV)} (h : Rep C ρ nt sl en a w) (hs : sub s sl) : Rep C ρ nt s en a w := ⟨h.hw, fun d v hd => h.tm d v (hs d v hd), h.sz, h.df, h.n0⟩
theorem Run_less {s : List (Nat × SV)} {k : List KI} (hs : sub s sl) (h : Run C k nt s en) : Run C k nt sl en := fun ρ a w hr => h ρ a w (hr.less hs)
theorem Run_loop {ι : Type} {c : Code} {k : List KI} (slF : ι → List (Nat × SV)) (enF : ι → List EN) (μ : ι → Nat) (x0 : ι) (h0 : sub (slF x0) sl) (he0 : enF x0 = en)
    (round : ∀ x J, (∀ y s, μ y < μ x → sub (slF y) s → Run (lpC C k J) [] nt s (enF y)) → Run (lpC C k J) [.code c] nt (slF x) (enF x)) : Run C (.code (.loop c) :: k) nt sl en := by
  intro ρ a w hr
  subst he0
  refine wp_loop_ghost (fun n a w => ∃ x ρ, μ x = n ∧ Rep C ρ nt (slF x) (enF x) a w) (μ x0) ⟨x0, ρ, rfl, hr.less h0⟩ ?_
  rintro n a w ⟨x, ρ, rfl, hx⟩
  refine round x (fun a' w' => ∃ n', n' < μ x ∧ ∃ y ρ, μ y = n' ∧ Rep C ρ nt (slF y) (enF y) a' w') ?_ ρ a w (hx.toC rfl rfl rfl rfl rfl)
  intro y s hy hs ρ' a' w' hr'
  exact ⟨μ y, hy, y, ρ', rfl, (hr'.less hs).toC rfl rfl rfl rfl rfl⟩
theorem KQ_exit {id : Nat} : ∀ (k : List KI) (a : Act) (w : World), zH id k = none → C.Q (.exit id) a w → KQ C k (.exit id) a w
  | [], a, w, _, h => h
  | .code _ :: k, a, w, hu, h => KQ_exit k a w hu h
  | .blk i :: k, a, w, hu, h => by
    simp only [zH] at hu
    split at hu
    · cases hu
    · rename_i hne
      simp only [KQ, Exit.inBlock]
      rw [if_neg hne]
      exact KQ_exit k a w hu h
  | .ops _ _ :: k, a, w, hu, h => KQ_exit k a w hu h
theorem Run_lpExit {id : Nat} {k k' kk : List KI} {J : Act → World → Prop} (hkk : zH id kk = none) (hk : zH id k = some k') (h : Run C k' nt sl en) : Run (lpC C k J) (.code (.exit id) :: kk) nt sl en := by
  intro ρ a w hr
  refine wp_exit (KQ_exit kk a w hkk ?_)
  exact unw_ok hk a w (h ρ a w (hr.toC rfl rfl rfl rfl rfl))
theorem Ctx.lp {P : Program} {fn : Func} {R : Ending → World → Prop} (h : Ctx C P fn R) (k : List KI) (J : Act → World → Prop) : Ctx (lpC C k J) P fn R := ⟨h.p, fun a w hb => KQ_ret k a w (h.ret a w hb), h.df⟩
end
end Go.Proofs.YtehfcboiimdkbaaGreatDoor
