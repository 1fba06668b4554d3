/- make of a row of elements of one cell; a text of a row of bytes. No program in sight. -/
import Derived.Test.YtehfcboiimdkbaaGreatDoorBB
import Derived.Laws.MakeOwn
import Derived.Laws.BytesString
namespace Go.Proofs.YtehfcboiimdkbaaGreatDoor
set_option linter.unusedSimpArgs false
set_option linter.unusedVariables false
open Go.RowKit
section
variable {C : Cx} {nt : Nat} {sl : List (Nat × SV)} {en : List EN} {k : List KI}
variable {dst : Option Nat} {op : Op} {ty : TypeId} {pos : String} {af : Array Edge} {all r : List Oper} {gd : Option (Nat × Bool)}
theorem made_rep (zv : Value) (n : Nat) : madeCells #[zv] n = (List.replicate n zv).toArray := by
  apply Array.ext
  · simp [madeCells]
  · intro i h1 h2
    simp [madeCells, Nat.mod_one]
theorem make_op {x y : Operand} {t e : TypeId} {n bts : Nat} {kx ky : IntKind} {i : TypeInfo} {z : SC} {zv : Value} (ht : C.P.underlying t = some (.slice e)) (hi : C.P.info? e = some i) (hz : i.zero = some zv) (hs : i.size = 1) (hb : i.bytes = bts) (hz1 : zv.cells = #[zv])
    (hzv : ∀ ρ, z.den ρ = zv) (hzw : ∀ pr, z.wf pr) (he : e ≠ DEAD) (hx : ev sl x = some (.c (.i kx (n : Int)))) (hy : ev sl y = some (.c (.i ky (n : Int)))) (hbt : bts * n ≤ 281474976710656) (h63 : n ≤ 9223372036854775807)
    (hg : gdT all sl gd = true) (hd : ∀ d, dst = some d → d < nt)
    (hK : Run C (.ops all r :: k) nt (jN dst (.c (.sl (zG en) 0 n n)) sl) (zF en ⟨(e, 0, whole), List.replicate n z, true⟩)) :
    Run C (.ops all (⟨dst, .makeSlice t x y, ty, pos, af, gd⟩ :: r) :: k) nt sl en := by
  have hlen : (zF en (⟨(e, 0, whole), List.replicate n z, true⟩ : EN)).length = en.length + 1 := by rw [snoc_eq]; simp
  refine Run_hop _ _ hg (by rw [hlen]; omega) ?_ hd hK
  intro ρ a w hr
  obtain ⟨x1, _⟩ := hr.ev_ok _ _ hx
  obtain ⟨y1, _⟩ := hr.ev_ok _ _ hy
  have hdz : dens ρ (List.replicate n z) = List.replicate n zv := by simp [dens, hzv]
  have hal := hr.alloc e he (l := List.replicate n z) (fun q hu => by rw [(List.mem_replicate.1 hu).2]; exact hzw _)
  rw [hdz] at hal
  have hrun := run_make (P := C.P) w t e i zv ht hi hz kx ky n n (by omega) (Int.le_refl _) (by rw [hb, ← Int.natCast_mul]; omega) (by omega)
  simp only [Int.toNat_natCast, hs, Nat.mul_one, hz1, made_rep] at hrun
  refine ⟨updR ρ en.length ⟨w.heap.size, [], [], 0, none⟩, _, ?_, fun c hc => if_neg (by omega), ?_, hal.hw⟩
  · simp only [SV.den, SC.den] at x1 y1
    have e0 : updR ρ en.length ⟨w.heap.size, [], [], 0, none⟩ (zG en) = ⟨w.heap.size, [], [], 0, none⟩ := by rw [lenN_eq]; exact if_pos rfl
    simp [execOp, x1, y1, hrun, SV.den, SC.den, e0, Sem.run_bind, Result.andThen, Sem.run_pure]
  · show zG en < _
    rw [lenN_eq, hlen]; omega
theorem bytes_op {x : Operand} {s t e : TypeId} {X : SC} {bs : List UInt8} (ht : C.P.underlying s = some (.slice e)) (hu : C.P.underlying t = some .string) (he : C.P.underlying e = some (.int .u8)) (hx : ev sl x = some (.c X)) (hX : SrcOk C en X bs.length (bs.map fun b => .i .u8 (b.toNat : Int)))
    (hg : gdT all sl gd = true) (hd : ∀ d, dst = some d → d < nt)
    (hK : Run C (.ops all r :: k) nt (jN dst (.c (.s bs)) sl) en) :
    Run C (.ops all (⟨dst, .convert s t x, ty, pos, af, gd⟩ :: r) :: k) nt sl en := by
  refine Run_hop _ _ hg (Nat.le_refl _) ?_ hd hK
  intro ρ a w hr
  obtain ⟨x1, x2⟩ := hr.ev_ok _ _ hx
  obtain ⟨ad, cp, hyd, hcell⟩ := hX ρ _ w hr.hw x2
  have hdz : dens ρ (bs.map fun b => SC.i .u8 (b.toNat : Int)) = bs.map fun b => Value.int .u8 (b.toNat : Int) := by simp [dens, SC.den]
  rw [hdz] at hcell
  refine ⟨ρ, w, ?_, fun _ _ => rfl, trivial, hr.hw⟩
  have hl : (loadCells ad bs.length).run C.P w = .ok ((bs.map fun b => (b.toNat : Int)).map (Value.int .u8)).toArray w := by
    have := run_loadCells_list (P := C.P) (w := w) ad (bs.map fun b => Value.int .u8 (b.toNat : Int)) hcell
    rw [List.length_map] at this
    rw [this, List.map_map]; rfl
  have hb := run_bytesToString w ad bs.length cp _ hl
  have hf : ∀ (l : List UInt8) (b : ByteArray), (l.map fun b => (b.toNat : Int)).foldl (fun r n => r.push (UInt8.ofNat n.toNat)) b = ⟨b.data ++ l.toArray⟩ := by
    intro l
    induction l with
    | nil => intro b; simp
    | cons c l ih =>
      intro b
      simp only [List.map_cons, List.foldl_cons, ih]
      simp [ByteArray.push]
  rw [hf] at hb
  have e0 : (SV.c X).den ρ = .slice (some ad) bs.length cp := hyd
  rw [e0] at x1
  simp only [execOp, x1, convert, Sem.run_bind, Result.andThen, run_underlying ht, run_underlying hu, run_underlying he, hb]
  simp [SV.den, SC.den, Sem.run_pure]
end
end Go.Proofs.YtehfcboiimdkbaaGreatDoor
