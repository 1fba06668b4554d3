/- TextGets, walked. -/
import Derived.Test.YtlbbldcfkalhlaaGreatDoorCTrep
import Derived.Test.YtlbbldcfkalhlaaGreatDoorCTgetsL
import Derived.Test.YtlbbldcfkalhlaaGreatDoorCTnumW
import Derived.Test.YtlbbldcfkalhlaaGreatDoorBM
namespace Go.Proofs.YtlbbldcfkalhlaaGreatDoor
set_option linter.unusedSimpArgs false
set_option linter.unusedVariables false
open Go.RowKit
set_option maxRecDepth 100000

def itSx (x : It) : List SC := [.s x.key, .i .u32 x.flags, .s x.val, .i .i64 x.exp, .i .u64 x.cas, .i .i64 x.last, .b x.stale, .b x.won]
def itVx (x : It) : List Value := [.string ⟨x.key.toArray⟩, .int .u32 x.flags, .string ⟨x.val.toArray⟩, .int .i64 x.exp, .int .u64 x.cas, .int .i64 x.last, .bool x.stale, .bool x.won]
theorem itSx_len (x : It) : (itSx x).length = 8 := rfl
/-- items at a raw place -/
def RawIt (w : World) (a : Option Addr) (n : Nat) (xs : List It) : Prop := xs.length = n ∧ ∀ (k : Nat) x, xs[k]? = some x → ∃ b o, a = some ⟨b, o, none⟩ ∧ b < w.heap.size ∧ ∀ (j : Nat) v, (itVx x)[j]? = some v → w.cell? ⟨b, o + k * 8 + j, none⟩ = some v
/-- truths at a raw place -/
def RawB (w : World) (a : Option Addr) (n : Nat) (B : Nat → Bool) : Prop := ∀ k, k < n → ∃ b o, a = some ⟨b, o, none⟩ ∧ b < w.heap.size ∧ w.cell? ⟨b, o + k, none⟩ = some (.bool (B k))
theorem infoItG : (Tryz.prog.info? 47).map (fun i => (i.zero, i.size, i.bytes)) = some (some (.agg (itVx It.zero).toArray), 8, 72) := by kernel_rfl
theorem infoAnG : (Tryz.prog.info? 49).map (fun i => (i.zero, i.size, i.bytes)) = some (some (.agg (anVx ⟨0, It.zero, 0, false, false, false⟩).toArray), 13, 96) := by kernel_rfl
theorem mkC_1 {nE a q : Nat} : mkC nE [.f a, .h 0] 0 q ↔ q = nE + 1 := by
  unfold mkC
  constructor
  · rintro ⟨h1, h2⟩
    match hq : q - nE with
    | 0 => rw [hq] at h2; simp at h2
    | 1 => omega
    | k + 2 => rw [hq] at h2; simp at h2
  · rintro rfl
    exact ⟨by omega, by rw [show nE + 1 - nE = 1 by omega]; rfl⟩
section
variable {α : Type} {f : α → List SC}
theorem flat_den (hf : ∀ x (ρ ρ' : Nat → RE), dens ρ (f x) = dens ρ' (f x)) (xs : List α) (ρ ρ' : Nat → RE) : dens ρ (flatG f xs) = dens ρ' (flatG f xs) := by
  induction xs with
  | nil => rfl
  | cons x xs ih => simp only [flatG, dens, List.flatMap_cons, List.map_append] at ih ⊢; rw [ih]; congr 1; exact hf x ρ ρ'
theorem flat_wf (hf : ∀ x pr, wfs pr (f x)) (xs : List α) (pr : Nat → Prop) : wfs pr (flatG f xs) := by
  intro y hy
  simp only [flatG, List.mem_flatMap] at hy
  obtain ⟨x, _, hy⟩ := hy
  exact hf x pr y hy
end
theorem anSx_wf (x : An) (pr : Nat → Prop) : wfs pr (anSx x) := by
  intro y hy
  simp only [anSx, List.mem_cons, List.not_mem_nil, or_false] at hy
  rcases hy with rfl | rfl | rfl | rfl | rfl | rfl | rfl | rfl | rfl | rfl | rfl | rfl | rfl <;> trivial
theorem itSx_wf (x : It) (pr : Nat → Prop) : wfs pr (itSx x) := by
  intro y hy
  simp only [itSx, List.mem_cons, List.not_mem_nil, or_false] at hy
  rcases hy with rfl | rfl | rfl | rfl | rfl | rfl | rfl | rfl <;> trivial
theorem rcS_wf' (x : Cd) (pr : Nat → Prop) : wfs pr (rcS x) := by
  intro y hy
  simp only [rcS, List.mem_cons, List.not_mem_nil, or_false] at hy
  rcases hy with rfl | rfl | rfl | rfl | rfl | rfl | rfl | rfl | rfl | rfl | rfl | rfl | rfl | rfl | rfl | rfl <;> trivial
def rqG (tok : Bool) (cs : List Cd) : Rq := ⟨1, cs, false, tok, [], [], 0, false, []⟩
def rqE (tok : Bool) (cv : SC) : EN := ⟨(26, 0, whole), [.i .i64 1, cv, .b false, .b tok, .s [], .s [], .i .i64 0, .b false, .s [], .v (.slice none 0 0), .s []], true⟩
def enG (tok : Bool) (cs : List Cd) (az : List An) (ws : List It) : List EN :=
  [rqE tok (.rw 1 cs.length), rwE 37 16 cs.length (flatG rcS cs), rwE 49 13 az.length (flatG anSx az), rwE 47 8 ws.length (flatG itSx ws)]
def gwC (r : Rq) (xs : List An) : Ctr := fun f en ys => match f with
  | 15 => rowReply r xs en ys
  | 16 => (match ys with
    | [.c (.s l)] => some (l.length < 4294967281, .t [.c (.s (lineV l).1), .c (.i .i64 (((lineV l).2 : Nat) : Int))])
    | _ => none)
  | _ => lwC f en ys
theorem gwC_ok {C : Cx} {r : Rq} {xs : List An} (hP : C.P = Tryz.prog) (hE : ∀ w, Upd C.S C.w0 w → EnvT w) (hn1 : xs.length ≤ 100000) (hmn : r.cmds.length ≤ xs.length) (hok : ∀ x ∈ xs, AnOk x) (h1 : r.kind = 1) (hop : ∀ x, r.cmds[0]? = some x → x.op = 1) : CtrOk C (gwC r xs) := by
  intro f en ys p v h hp ρ w hup hHp hHo hinj hwf
  unfold gwC at h
  split at h
  · rw [hP]; exact ⟨fun args w => Tryz.call15 args w, rowReply_ok hn1 hmn hok h1 hop (hE w hup).env h hp hHp hHo⟩
  · rw [hP]
    refine ⟨fun args w => Tryz.call16 args w, ?_⟩
    split at h <;> simp only [Option.some.injEq, Prod.mk.injEq, reduceCtorEq] at h
    obtain ⟨rfl, rfl⟩ := h
    exact ⟨by intro x hx; simp at hx; rcases hx with rfl | rfl <;> trivial, line_w _ hp w (hE w hup)⟩
  · exact lwC_ok hP hE f en ys p v h hp ρ w hup hHp hHo hinj hwf
abbrev rs8_25 : List (Nat × Nat) := [(0, 0), (0, 0), (0, 0), (0, 0), (0, 0), (0, 0), (0, 0), (0, 0), (0, 0), (0, 0), (0, 0), (0, 0), (0, 0), (0, 0), (0, 0), (0, 0), (0, 0), (0, 0), (0, 0), (0, 0), (0, 0), (0, 0), (0, 0), (0, 0), (0, 0), (0, 0), (0, 0), (0, 0), (0, 0), (0, 0), (0, 0), (0, 0), (0, 0), (0, 0), (0, 0), (0, 0), (0, 0), (0, 0), (0, 0), (0, 0), (0, 0), (0, 0), (0, 0), (0, 0), (0, 0), (0, 0), (0, 0), (0, 0), (0, 0), (0, 0), (0, 0), (0, 0), (0, 0), (0, 0), (0, 0), (0, 0), (0, 0), (0, 0), (0, 0), (0, 0), (0, 0), (0, 0), (0, 0), (0, 0), (0, 0), (0, 0), (0, 0), (0, 0), (0, 0), (0, 0), (0, 0), (0, 0), (0, 0)]
def slW (tok : Bool) (k m i : Nat) (s : List UInt8) : List (Nat × SV) := [(13, .c (.i .i64 (i : Int))), (12, .c (.s s)), (10, .c (.sl 3 0 k m)), (7, .c (.b true)), (6, .c (.b false)), (1, .c (.b tok))]
def slG (a : Option Addr) (n c : Nat) (tok : Bool) (a2 : Option Addr) (n2 c2 : Nat) (j na nw : Nat) : List (Nat × SV) := [(11, .c (.i .i64 (j : Int))), (10, .c (.rw 3 nw)), (9, .c (.rw 2 na)), (8, .c (.p 0 0)), (7, .c (.b true)), (6, .c (.b false)), (0, .c (.v (.slice a n c))), (1, .c (.b tok)), (2, .c (.v (.slice a2 n2 c2)))]
end Go.Proofs.YtlbbldcfkalhlaaGreatDoor
