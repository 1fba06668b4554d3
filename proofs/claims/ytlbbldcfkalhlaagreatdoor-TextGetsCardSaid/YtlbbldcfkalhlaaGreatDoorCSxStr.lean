/- append of a text's bytes to a row of bytes. No program in sight. -/
import Derived.Test.YtlbbldcfkalhlaaGreatDoorBB
import Derived.Lib.AppendStr
namespace Go.Proofs.YtlbbldcfkalhlaaGreatDoor
set_option linter.unusedSimpArgs false
set_option linter.unusedVariables false
open Go.RowKit

/-- a text's bytes as cells -/
def bytesC (s : List UInt8) : List SC := s.map fun b => SC.i .u8 (b.toNat : Int)
theorem bytesC_app (a b : List UInt8) : bytesC a ++ bytesC b = bytesC (a ++ b) := by simp [bytesC]
theorem bytesC_len (a : List UInt8) : (bytesC a).length = a.length := by simp [bytesC]
theorem bytesC_den (ρ : Nat → RE) (s : List UInt8) : dens ρ (bytesC s) = Lib.strCells ⟨s.toArray⟩ := by simp [dens, bytesC, Lib.strCells, SC.den]
theorem bytesC_wf (pr : Nat → Prop) (s : List UInt8) : wfs pr (bytesC s) := by
  intro y hy
  simp only [bytesC, List.mem_map] at hy
  obtain ⟨_, _, rfl⟩ := hy; trivial
theorem run_append_str_at {P : Program} (w : World) (t u ty e : TypeId) (i : TypeInfo) (ht : P.underlying t = some (.slice e)) (hu : P.underlying u = some .string) (hi : P.info? e = some i) (hz : i.zero = some (.int .u8 0)) (hsize : i.size = 1) (hby : i.bytes = 1)
    (v : Value) (n : Nat) (xs : List Value) (hown : w.ownsRow 0 e 1 v n xs) (s : ByteArray) (hb : n + s.size ≤ 140737488355328) :
    ∃ v' w', (Builtin.append_ #[t, u] ty #[v, .string s]).run P w = .ok v' w' ∧ w'.ownsRow 0 e 1 v' (n + s.size) (xs ++ Lib.strCells s) ∧ w.grownBy w' v.ownBlock ∧ (v'.ownBlock = v.ownBlock ∨ v'.ownBlock = some w.heap.size) := by
  obtain ⟨v', w', h1, h2, h3, _⟩ := Lib.run_append_own_string (P := P) w 0 t u ty e i ht hu hi hz hsize hby v n xs hown s (by unfold maxLen; omega) hb (Nat.zero_le _)
  refine ⟨v', w', h1, h2, h3, ?_⟩
  rcases hown.2 with ⟨rfl, rfl⟩ | ⟨g, cap, cur, rfl, hbg, hg, hnc, hcm, jB, htake⟩
  · by_cases hm : s.size = 0
    · rcases h2.2 with ⟨rfl, _⟩ | ⟨g, cap, cur, rfl, _, hg, _⟩
      · exact .inl rfl
      · exfalso
        have hf := Lib.run_firstCells_string (P := P) w 1 s
        rw [hm] at hf
        have : (Builtin.append_ #[t, u] ty #[.slice none 0 0, .string s]).run P w = .ok (.slice none 0 0) w := by
          simp [Builtin.append_, run_underlying ht, run_underlying hu, sizeOf, typeInfo, hi, hsize, Builtin.lenOf, hm, hf]
        rw [this] at h1
        cases h1
    · have hr := run_append_nil_string (P := P) w t u ty e i (.int .u8 0) ht hu hi hz s (by omega) (by omega) (by rw [hby]; omega)
      rw [hr] at h1
      simp only [Result.ok.injEq] at h1
      obtain ⟨rfl, _⟩ := h1
      exact .inr rfl
  · by_cases hroom : n + s.size ≤ cap
    · have hcs' : cur.size = cap := by simpa using jB
      have hr := Lib.run_append_room_string (P := P) w t u ty e i ht hu hi hsize g n cap cur hg s hroom (by omega)
      rw [hr] at h1
      simp only [Result.ok.injEq] at h1
      obtain ⟨rfl, _⟩ := h1
      exact .inl rfl
    · have holds : ∀ (j : Nat) u, xs[j]? = some u → w.cell? ((⟨g, 0, none⟩ : Addr).add j) = some u := hown.cells (g := g) rfl
      have hxl : xs.length = n := by simpa using hown.1
      have hr := Lib.run_append_grow_string (P := P) w t u ty e i (.int .u8 0) ht hu hi hz ⟨g, 0, none⟩ n cap xs (by rw [hsize]; simpa using hxl) holds s (by omega) (by omega) (by rw [hby]; exact growslice_fits (by omega) (by omega))
      rw [hr] at h1
      simp only [Result.ok.injEq] at h1
      obtain ⟨rfl, _⟩ := h1
      exact .inr rfl
section
variable {C : Cx} {nt : Nat} {sl : List (Nat × SV)} {en : List EN} {k : List KI}
variable {dst : Option Nat} {ty : TypeId} {pos : String} {af : Array Edge} {all r : List Oper} {gd : Option (Nat × Bool)}
theorem append_str_op {x y : Operand} {t u e n d : Nat} {cells : List SC} {s : List UInt8} {i : TypeInfo} (ht : C.P.underlying t = some (.slice e)) (hu : C.P.underlying u = some .string) (hi : C.P.info? e = some i) (hz : i.zero = some (.int .u8 0)) (hs : i.size = 1) (hb : i.bytes = 1) (he : e ≠ DEAD)
    (hd' : zD en d = some (rwE e 1 n cells)) (hx : ev sl x = some (.c (.rw d n))) (hy : ev sl y = some (.c (.s s))) (hnm : n + s.length ≤ 140737488355328) (hn0 : C.n0 ≤ en.length)
    (hg : gdT all sl gd = true) (hd : ∀ d, dst = some d → d < nt)
    (hK : Run C (.ops all r :: k) nt (jN dst (.c (.rw (zG en) (n + s.length))) sl) (zF (killE en (some d)) (rwE e 1 (n + s.length) (cells ++ bytesC s)))) :
    Run C (.ops all (⟨dst, .call ⟨.builtin .append, #[x, y], #[t, u]⟩, ty, pos, af, gd⟩ :: r) :: k) nt sl en := by
  have hle : (zF (killE en (some d)) (rwE e 1 (n + s.length) (cells ++ bytesC s))).length = en.length + 1 := by rw [snoc_eq]; simp [killE_len]
  refine Run_hop _ _ hg (by rw [hle]; omega) ?_ hd hK
  intro ρ a w hr
  obtain ⟨x1, x2⟩ := hr.ev_ok _ _ hx
  obtain ⟨y1, _⟩ := hr.ev_ok _ _ hy
  have ld : d < en.length := x2
  have hw := hr.hw
  have hP := hw.hp d _ _ _ ld hd'
  obtain ⟨_, hO⟩ := hw.ho d _ _ _ ld hd'
  have hxl : cells.length = n * 1 := hO.1
  -- the row as it is
  obtain ⟨vb, hblk, hob, hown⟩ : ∃ vb : Option Nat, (∀ g, vb = some g → ∃ d' iv, some d = some d' ∧ d' < en.length ∧ zD en d' = some ⟨(e, 0, iv), cells, true⟩ ∧ (ρ d').nl = none ∧ (ρ d').blk = g) ∧ (rwOf (ρ d) n).ownBlock = vb ∧ w.ownsRow 0 e 1 (rwOf (ρ d) n) n (dens ρ cells) := by
    rcases hO.2 with ⟨h1, h2, h3, h4, h5⟩ | ⟨h1, h2, h3⟩
    · have hh := hP.heap ⟨he, h1⟩
      refine ⟨some (ρ d).blk, fun g hg => ⟨d, _, rfl, ld, hd', h1, Option.some.inj hg⟩, by rw [rwOf_on h1]; rfl, by rw [dens_len, hxl], .inr ⟨(ρ d).blk, (ρ d).cap, _, rwOf_on h1 n, Nat.zero_le _, hh, h4, h5, ?_, ?_⟩⟩
      · simpa [h2, dens_len] using h3
      · rw [h2]; simp only [List.nil_append, List.toList_toArray]
        rw [List.take_append_of_le_length (by simp [dens_len, hxl]), List.take_of_length_le (by simp [dens_len, hxl])]
    · subst h2
      have hc : cells = [] := List.eq_nil_of_length_eq_zero (by rw [hxl])
      subst hc
      exact ⟨none, (fun g h => by cases h), by rw [rwOf_off h1]; rfl, by rw [rwOf_off h1]; exact World.ownsRow_nil w 0 e 1⟩
  obtain ⟨v', w', h1, h2, h3, h5⟩ := run_append_str_at (P := C.P) w t u ty e i ht hu hi hz hs hb _ n _ hown ⟨s.toArray⟩ (by show n + s.toArray.size ≤ _; simpa using hnm)
  have hsz : (⟨s.toArray⟩ : ByteArray).size = s.length := by show s.toArray.size = _; simp
  rw [hsz, ← bytesC_den ρ s, show dens ρ cells ++ dens ρ (bytesC s) = dens ρ (cells ++ bytesC s) by simp [dens]] at h2
  rw [hob] at h3 h5
  obtain ⟨ρ', e0, k1, k2⟩ := append_core (C := C) (pr := (· < en.length)) (N := en.length) (mk := fun q => q = en.length) (en := en) (en' := zF (killE en (some d)) (rwE e 1 (n + s.length) (cells ++ bytesC s))) (m := s.length) he (.some hd') (fun pr => bytesC_wf pr s) hn0 (fun _ => Iff.rfl)
    (by have := nth_snoc (en := killE en (some d)) (e := rwE e 1 (n + s.length) (cells ++ bytesC s)); rwa [lenN_eq, killE_len] at this)
    (fun q hq => nth_snoc_ne (by rw [lenN_eq, killE_len]; exact hq)) (Nat.lt_irrefl _) hw x2 hblk h2 h3 h5
  refine ⟨ρ', w', ?_, k1, ?_, k2.iff (fun q => by rw [hle]; omega)⟩
  · have x1' : a.eval x = rwOf (ρ d) n := x1
    have y1' : a.eval y = .string ⟨s.toArray⟩ := y1
    rw [lenN_eq, e0]
    simp [execOp, resolve, invoke, builtin, x1', y1', h1]
  · show zG en < _
    rw [lenN_eq, hle]; omega
end
end Go.Proofs.YtlbbldcfkalhlaaGreatDoor
