/- The arguments of the laws on counting, opened. -/
import Derived.Test.YtjfkfnlnjklcdaaDoorOpen
import Derived.Test.YtjfkfnlnjklcdaaDoorResW
namespace Go.Proofs.YtjfkfnlnjklcdaaDoor
open Go.ChangeShapes Go.WideShapes Go.ChangeAt Go.RowKit Go.Deep

def boolOf : Value → Bool | .bool b => b | _ => false
/-- the command in 16 cells -/
def cmdAt (w : World) (b o : Nat) : Cmd := let x := fun j => (w.cell? ⟨b, o + j, none⟩).getD undef; { op := intOf (x 0), cas := boolOf (x 8), down := boolOf (x 11), x := x }
theorem hone35 : (match Tryd.prog.underlying 35 with | some (.struct fs) => oneCellFields Tryd.prog fs && fs.size == 16 && (fs[0]?.map (·.type) == some 3) && (fs[8]?.map (·.type) == some 4) && (fs[11]?.map (·.type) == some 4) | _ => false) = true := by kernel_rfl

set_option maxRecDepth 100000
section
variable {H : Type} {enc : TypeId × Value → H} {W : World} {base : Nat}
theorem open_cmds {v : Value} {d : DataW H} {ps : List MemPlace} (hv : Value.okWide Tryd.prog W .any base 22 v) (h : DataW.Trod enc Tryd.prog W 0 (fun _ => true) true 22 v d ps) :
    ∃ (A : Option Addr) (n c : Nat) (cs : Nat → Cmd), v = .slice A n c ∧ n ≤ maxLen ∧ ∀ k, k < n → ∃ b o, A = some ⟨b, o, none⟩ ∧ b < W.heap.size ∧ W.rangeAt b (o + k * 16) (Cmd.cells (cs k)) := by
  obtain ⟨a0, len, cap, rfl⟩ := okWide_slice Tryd.underlying22 hv
  obtain ⟨fuel, hf⟩ := h
  have hh := hone35
  cases hu : Tryd.prog.underlying 35 with
  | none => rw [hu] at hh; cases hh
  | some T =>
    rw [hu] at hh
    cases T with
    | struct fs =>
      simp only [Bool.and_eq_true, beq_iff_eq] at hh
      obtain ⟨⟨⟨⟨h1, hsz⟩, f0⟩, f8⟩, f11⟩ := hh
      obtain ⟨A, n, c, hcs, hn, hel⟩ := open_structs Tryd.underlying22 hu h1 (by rw [hsz]; kernel_rfl) hf
      have e : Value.slice a0 len cap = .slice A n c := by simpa [Value.cells] using hcs
      refine ⟨A, n, c, fun k => match A with | some a => cmdAt W a.block (a.off + k * 16) | none => cmdAt W 0 0, e, hn, fun k hk => ?_⟩
      obtain ⟨a, rfl, h0⟩ := hel 0 (by omega)
      have hfz : fs[0]? = some fs[0] := Array.getElem?_eq_getElem (by omega)
      obtain ⟨v0, y0, m0, hc0, _⟩ := h0 0 _ hfz
      rw [hsz, Nat.zero_mul, Nat.zero_add] at hc0
      obtain ⟨b, o, rfl, hb⟩ := plain_addr hc0
      refine ⟨b, o, rfl, hb, ?_⟩
      obtain ⟨a', e', hk'⟩ := hel k hk
      cases e'
      have cell : ∀ j, j < 16 → ∃ u y m t, (fs[j]?).map (·.type) = some t ∧ W.cell? ⟨b, o + k * 16 + j, none⟩ = some u ∧ DataW.trod enc Tryd.prog W 0 (fun _ => true) true m t [u] = some y := fun j hj => by
        have hfj : fs[j]? = some (fs[j]'(by omega)) := Array.getElem?_eq_getElem (by omega)
        obtain ⟨u, y, m, hcu, ht⟩ := hk' j _ hfj
        rw [hsz, Go.WideShapes.add_plain, ← Nat.add_assoc] at hcu
        exact ⟨u, y, m, _, by rw [hfj]; rfl, hcu, ht⟩
      have g0 : ∃ q, W.cell? ⟨b, o + k * 16 + 0, none⟩ = some (.int .i64 q) := by
        obtain ⟨u, y, m, t, ht, hc, hr⟩ := cell 0 (by omega)
        rw [f0] at ht; cases ht
        obtain ⟨q, hq, _, _⟩ := DataW.trod_int Tryd.underlying3 hr
        cases hq; exact ⟨q, hc⟩
      have g8 : ∃ q, W.cell? ⟨b, o + k * 16 + 8, none⟩ = some (.bool q) := by
        obtain ⟨u, y, m, t, ht, hc, hr⟩ := cell 8 (by omega)
        rw [f8] at ht; cases ht
        obtain ⟨q, hq, _⟩ := DataW.trod_bool Tryd.underlying4 hr
        cases hq; exact ⟨q, hc⟩
      have g11 : ∃ q, W.cell? ⟨b, o + k * 16 + 11, none⟩ = some (.bool q) := by
        obtain ⟨u, y, m, t, ht, hc, hr⟩ := cell 11 (by omega)
        rw [f11] at ht; cases ht
        obtain ⟨q, hq, _⟩ := DataW.trod_bool Tryd.underlying4 hr
        cases hq; exact ⟨q, hc⟩
      obtain ⟨q0, g0⟩ := g0; obtain ⟨q8, g8⟩ := g8; obtain ⟨q11, g11⟩ := g11
      have hx : ∀ j, j < 16 → W.cell? ⟨b, o + k * 16 + j, none⟩ = some ((W.cell? ⟨b, o + k * 16 + j, none⟩).getD undef) := fun j hj => by
        obtain ⟨u, _, _, _, _, hc, _⟩ := cell j hj
        rw [hc]; rfl
      intro j u hu
      have hj : j < 16 := by
        have := (List.getElem?_eq_some_iff.1 hu).1
        simpa [Cmd.cells, cmdC] using this
      rw [hx j hj]
      have e0 : (cmdAt W b (o + k * 16)).op = q0 := by simp only [cmdAt, g0]; rfl
      have e8 : (cmdAt W b (o + k * 16)).cas = q8 := by simp only [cmdAt, g8]; rfl
      have e11 : (cmdAt W b (o + k * 16)).down = q11 := by simp only [cmdAt, g11]; rfl
      have : j = 0 ∨ j = 1 ∨ j = 2 ∨ j = 3 ∨ j = 4 ∨ j = 5 ∨ j = 6 ∨ j = 7 ∨ j = 8 ∨ j = 9 ∨ j = 10 ∨ j = 11 ∨ j = 12 ∨ j = 13 ∨ j = 14 ∨ j = 15 := by omega
      simp only [Cmd.cells, e0, e8, e11] at hu
      rcases this with rfl | rfl | rfl | rfl | rfl | rfl | rfl | rfl | rfl | rfl | rfl | rfl | rfl | rfl | rfl | rfl
      all_goals (simp only [cmdC, List.getElem?_cons_succ, List.getElem?_cons_zero] at hu)
      · rw [g0]; exact hu
      · exact hu
      · exact hu
      · exact hu
      · exact hu
      · exact hu
      · exact hu
      · exact hu
      · rw [g8]; exact hu
      · exact hu
      · exact hu
      · rw [g11]; exact hu
      · exact hu
      · exact hu
      · exact hu
      · exact hu
    | _ => cases hh

theorem open_ints64 {v : Value} {d : DataW H} {ps : List MemPlace} (hv : Value.okWide Tryd.prog W .any base 23 v) (h : DataW.Trod enc Tryd.prog W 0 (fun _ => true) true 23 v d ps) :
    ∃ (A : Option Addr) (n c : Nat) (st : Nat → Int), v = .slice A n c ∧ n ≤ maxLen ∧ ∀ k, k < n → ∃ b o, A = some ⟨b, o, none⟩ ∧ b < W.heap.size ∧ W.cell? ⟨b, o + k, none⟩ = some (.int .i64 (st k)) ∧ (Lit.int .i64 (st k)).wf = true := by
  obtain ⟨a0, len, cap, rfl⟩ := okWide_slice Tryd.underlying23 hv
  obtain ⟨fuel, hf⟩ := h
  obtain ⟨A, n, c, hcs, hn, hel⟩ := open_nums Tryd.underlying23 Tryd.underlying3 (by kernel_rfl) hf
  have e : Value.slice a0 len cap = .slice A n c := by simpa [Value.cells] using hcs
  refine ⟨A, n, c, fun k => match A with | some a => intOf ((W.cell? ⟨a.block, a.off + k, none⟩).getD undef) | none => 0, e, hn, fun k hk => ?_⟩
  obtain ⟨a, q, rfl, h0, _⟩ := hel 0 (by omega)
  obtain ⟨b, o, rfl, hb⟩ := plain_addr h0
  obtain ⟨a', q', e', hc, hw⟩ := hel k hk
  cases e'
  rw [Go.WideShapes.add_plain] at hc
  refine ⟨b, o, rfl, hb, ?_, ?_⟩
  · simp only [hc]; rfl
  · simp only [hc]; exact hw
end
end Go.Proofs.YtjfkfnlnjklcdaaDoor
