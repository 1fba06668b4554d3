/- A slice literal without elements, as a row that may grow. No program in sight. -/
import Derived.Test.YtlaagebdbcmckaaGreatDoorBB
namespace Go.Proofs.YtlaagebdbcmckaaGreatDoor
set_option linter.unusedSimpArgs false
set_option linter.unusedVariables false
open Go.RowKit
section
variable {C : Cx} {nt : Nat} {sl : List (Nat × SV)} {en : List EN} {k : List KI}
variable {dst : Option Nat} {ty : TypeId} {pos : String} {af : Array Edge} {all r : List Oper} {gd : Option (Nat × Bool)}
theorem build0_op {t e : TypeId} {z : Nat} {i : TypeInfo} (ht : C.P.underlying t = some (.slice e)) (hi : C.P.info? e = some i) (he : e ≠ DEAD) (hn0 : C.n0 ≤ en.length)
    (hg : gdT all sl gd = true) (hd : ∀ d, dst = some d → d < nt)
    (hK : Run C (.ops all r :: k) nt (jN dst (.c (.rw (zG en) 0)) sl) (zF en (rwE e z 0 []))) :
    Run C (.ops all (⟨dst, .buildSlice t 0 #[], ty, pos, af, gd⟩ :: r) :: k) nt sl en := by
  have hle : (zF en (rwE e z 0 [])).length = en.length + 1 := by rw [snoc_eq]; simp
  refine Run_hop _ _ hg (by rw [hle]; omega) ?_ hd hK
  intro ρ a w hrep
  have hw := hrep.hw
  have hnr : ∀ cs : Array Value, (newRow e cs).run C.P w = .ok ⟨w.heap.size, 0, none⟩ (w.alloc (.cells cs e)) := fun _ => rfl
  have h00 : ∀ q : Nat → Value, Array.map q (Array.range 0) = #[] := fun q => by apply Array.toList_inj.1; simp
  have hsz : (sizeOf e).run C.P w = .ok i.size w := run_sizeOf hi
  have hrun : (Instr.buildSlice t 0 #[]).run C.P w = .ok (.slice (some ⟨w.heap.size, 0, none⟩) 0 0) (w.alloc (.cells #[] e)) := by
    simp [Instr.buildSlice, run_und ht, hsz, Instr.fill, hnr, h00]
  obtain ⟨v', hv'⟩ : ∃ v' : Value, v' = .slice (some ⟨w.heap.size, 0, none⟩) 0 0 := ⟨_, rfl⟩
  obtain ⟨w', hw'⟩ : ∃ w', w' = w.alloc (.cells #[] e) := ⟨_, rfl⟩
  rw [← hv', ← hw'] at hrun
  have h2 : w'.ownsRow 0 e z v' (0 + 0) (dens ρ ([] ++ [])) :=
    ⟨by simp [dens], .inr ⟨w.heap.size, 0, #[], hv', Nat.zero_le _, by rw [hw']; exact heap_alloc_new w _, Nat.le_refl _, Nat.zero_le _, by simp, by simp [dens]⟩⟩
  have h3 : w.grownBy w' none := by rw [hw']; exact ⟨rfl, rfl, rfl, by simp, fun k hk _ => Go.heap_alloc_old w _ hk⟩
  obtain ⟨ρ', e0, k1, k2⟩ := append_core (C := C) (pr := (· < en.length)) (N := en.length) (mk := fun q => q = en.length) (en := en) (en' := zF en (rwE e z (0 + 0) ([] ++ []))) (m := 0) (n := 0) (cells := []) (news := []) (X := .v (.slice none 0 0)) (o := none) (vb := none) he (.none rfl rfl)
    (fun pr y hy => nomatch hy) hn0 (fun _ => Iff.rfl) (by have := nth_snoc (en := en) (e := rwE e z (0 + 0) ([] ++ [])); rwa [lenN_eq] at this)
    (fun q hq => nth_snoc_ne (by rw [lenN_eq]; exact hq)) (Nat.lt_irrefl _) hw trivial (fun g h => by cases h) h2 h3 (.inr (by rw [hv']; rfl))
  refine ⟨ρ', w', ?_, k1, ?_, k2.iff (fun q => by rw [hle]; omega)⟩
  · rw [lenN_eq, e0]
    simp [execOp, hrun]
  · show zG en < _
    rw [lenN_eq, hle]; omega
end
end Go.Proofs.YtlaagebdbcmckaaGreatDoor
