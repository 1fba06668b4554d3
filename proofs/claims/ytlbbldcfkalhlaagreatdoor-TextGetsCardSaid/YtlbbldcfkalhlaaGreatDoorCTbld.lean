/- strings.Builder: copyCheck, walked. -/
import Derived.Test.YtlbbldcfkalhlaaGreatDoorCTshown
import Derived.Shelf.Strings.BuilderX
import Derived.Lib.Builder
import Derived.WalkKit
import Derived.Laws.Externs
import Derived.Lib.BufferMore
import Derived.Lib.BufferWrite
import Derived.Lib.FrozenHead
import Derived.Test.YtlbbldcfkalhlaaGreatDoorBM
import Derived.Test.YtlbbldcfkalhlaaGreatDoorCSxStr
import Derived.Test.YtlbbldcfkalhlaaGreatDoorCSxInl
namespace Go.Proofs.YtlbbldcfkalhlaaGreatDoor
set_option linter.unusedSimpArgs false
set_option linter.unusedVariables false
open Go.RowKit
set_option maxRecDepth 100000

theorem sizeBld : (Tryz.prog.info? 73).map (·.size) = some 2 := by kernel_rfl
theorem liesBld : liesAt Tryz.prog Tryz.prog.depth 73 (2 / Tryz.prog.cellsOf 73) 0 73 1 = true := by kernel_rfl
set_option maxHeartbeats 1000000 in
theorem cc_used (b : Nat) (w : World) (h0 : w.cell? ⟨b, 0, none⟩ = some (.pointer (some ⟨b, 0, none⟩))) :
    Calls Tryz.prog 41 #[.pointer (some ⟨b, 0, none⟩)] w fun e w' => e = .returned (.tuple #[]) ∧ w' = w := by
  obtain ⟨j, hj, _⟩ := Option.map_eq_some_iff.1 sizeBld
  go_enter Tryz.func41, Tryz.ntmps41
  go_wp2
  rw [Lib.run_neq_ptr_same w _ Tryz.underlying71 hj]
  go_wp2
  go_end0
  exact ⟨rfl, rfl⟩
set_option maxHeartbeats 1000000 in
theorem cc_fresh (b : Nat) (w : World) (h0 : w.cell? ⟨b, 0, none⟩ = some (.pointer none)) (hsh : w.shape? b = some (73, 2)) (hfz : w.frozen? ⟨b, 0, none⟩ = false) :
    Calls Tryz.prog 41 #[.pointer (some ⟨b, 0, none⟩)] w fun e w' => e = .returned (.tuple #[]) ∧ w' = w.setCell ⟨b, 0, none⟩ (.pointer (some ⟨b, 0, none⟩)) := by
  obtain ⟨j, hj, hjs⟩ := Option.map_eq_some_iff.1 sizeBld
  go_enter Tryz.func41, Tryz.ntmps41
  go_wp2
  rw [Lib.run_to_unsafe w ⟨b, 0, none⟩ Tryz.underlying71 Tryz.underlying110 hj (by rw [hjs]; decide) hsh (Nat.zero_lt_succ 1)]
  simp only [Result.andThen]
  rw [Oper.upon_value]
  go_wp2
  rw [run_callFunc_extern Tryz.func66 (by kernel_rfl) (by kernel_rfl) (by kernel_rfl) (e := Extern.AbiNoEscape.same) (by kernel_rfl)]
  rw [Lib.run_noEscape]
  simp only [Result.andThen]
  rw [Oper.upon_value]
  go_wp2
  rw [Lib.run_from_unsafe w ⟨b, 0, none⟩ Tryz.underlying110 Tryz.underlying71 hj hsh liesBld]
  simp only [Result.andThen]
  rw [Oper.upon_value]
  go_wp2
  go_end0
  exact ⟨rfl, rfl⟩
def bldE (X Y : SC) : EN := ⟨(73, 0, whole), [X, Y], true⟩
theorem set_same {en : List EN} {c : Nat} {e : EN} (h : zD en c = some e) : zE en c e = en := by
  rw [setN_eq]
  rw [nthS_eq] at h
  obtain ⟨hcl, he⟩ := List.getElem?_eq_some_iff.1 h
  rw [← he, List.set_getElem_self]
/-- copyCheck as a call of a walk -/
theorem cc_h {C : Cx} {nE c : Nat} {mk : Nat → Prop} {en : List EN} {X Y : SC} (hP : C.P = Tryz.prog) (hmk : ∀ q, ¬ mk q) (hc : zD en c = some (bldE X Y)) (hX : X = .v (.pointer none) ∨ X = .p c 0) :
    HCall C nE mk en (zE en c (bldE (.p c 0) Y)) 41 [.c (.p c 0)] (.t []) := by
  refine ⟨fun args w => by rw [hP]; exact Tryz.call41 args w, ?_⟩
  intro ρ pr w hpr hmn hw hex hx
  have hcp : pr c := hx (.c (.p c 0)) (by simp)
  have hpl : ∀ q, pr q → q < en.length := fun q hq => by
    have := hex q hq
    rw [nthS_eq] at this
    rcases Nat.lt_or_ge q en.length with h | h
    · exact h
    · exact absurd (List.getElem?_eq_none h) this
  obtain ⟨k1, k2, k3, k4, k5⟩ := ent_blk hw.hp hw.ho hcp hc (by decide) (by simp)
  have hpt : (SC.p c 0).den ρ = .pointer (some ⟨(ρ c).blk, 0, none⟩) := k2
  have e0 : (List.map (SV.den ρ) [.c (.p c 0)]).toArray = #[.pointer (some ⟨(ρ c).blk, 0, none⟩)] := by simp [SV.den, hpt]
  rw [e0, hP]
  have hset : ∀ w', Hw C ρ pr (zE en c (bldE (.p c 0) Y)) w' → Hw C ρ (fun q => pr q ∨ mk q) (zE en c (bldE (.p c 0) Y)) w' := fun w' h => h.iff fun q => ⟨fun h => h.resolve_right (hmk q), .inl⟩
  have hres : ∀ ρ' : Nat → RE, Ending.returned (.tuple #[]) = .returned ((SV.t []).den ρ') := fun _ => rfl
  rcases hX with rfl | rfl
  · have hb : w.heap[(ρ c).blk]? = some (.cells #[.pointer none, Y.den ρ] 73 (0, 0)) := by simpa [Blk, dens, SC.den] using k1
    refine (cc_fresh (ρ c).blk w (by simp [World.cell?, hb]) (by simp [World.shape?, hb]) (Lib.frozen_of_heap hb 0)).mono ?_
    rintro e w' ⟨rfl, rfl⟩
    refine ⟨ρ, fun _ _ => rfl, hres ρ, (by intro y hy; simp at hy), hset _ ?_, fun q hq => absurd hq (hmk q)⟩
    have hg := Lib.grownBy_setCell w (ρ c).blk 0 (.pointer (some ⟨(ρ c).blk, 0, none⟩))
    refine Hw.turn hw hpl hcp hc (by decide) k5 ⟨hg.os, hg.tape, hg.output, hg.size, fun q hq hne => hg.block q hq (fun h => hne (by have := Option.some.inj h; exact this))⟩ ?_ ?_
    · rw [Lib.heap_setCell_same hb, k3, k4]
      simp [dens, hpt]
    · intro y hy
      simp only [List.mem_cons, List.not_mem_nil, or_false] at hy
      rcases hy with rfl | rfl
      · exact hcp
      · exact (hw.hp c _ _ _ hcp hc).wf _ (by simp)
  · have hb : w.heap[(ρ c).blk]? = some (.cells #[.pointer (some ⟨(ρ c).blk, 0, none⟩), Y.den ρ] 73 (0, 0)) := by simpa [Blk, dens, hpt] using k1
    refine (cc_used (ρ c).blk w (by simp [World.cell?, hb])).mono ?_
    rintro e w' ⟨rfl, rfl⟩
    refine ⟨ρ, fun _ _ => rfl, hres ρ, (by intro y hy; simp at hy), hset _ ?_, fun q hq => absurd hq (hmk q)⟩
    rw [set_same hc]; exact hw
end Go.Proofs.YtlbbldcfkalhlaaGreatDoor
