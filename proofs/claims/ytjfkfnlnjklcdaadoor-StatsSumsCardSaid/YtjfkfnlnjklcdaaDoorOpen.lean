/- What an argument's reading says of memory: slices of plain structs and of whole numbers, at plain addresses. -/
import Derived.Test.YtjfkfnlnjklcdaaDoorPost
namespace Go.Proofs.YtjfkfnlnjklcdaaDoor
open Go.ChangeShapes Go.WideShapes Go.ChangeAt Go.RowKit Go.Deep

theorem plain_addr {w : World} {a : Addr} {v : Value} (h : w.cell? (a.add 0) = some v) : ∃ b o, a = ⟨b, o, none⟩ ∧ b < w.heap.size := by
  obtain ⟨b, o, sp⟩ := a
  have hs : sp = none := by simpa [Addr.add] using World.cell?_spot h
  subst hs
  exact ⟨b, o, rfl, by simpa [Addr.add] using block_lt_of_cell h⟩

/-- the value in a cell -/
def valAt (w : World) (a : Addr) (i : Nat) : Value := (w.cell? (a.add i)).getD undef

section
variable {H : Type} {enc : TypeId × Value → H} {P : Program} {w : World}
/-- a slice of structs of one-cell fields: where it lies, and each field's own reading -/
theorem open_structs {t e : TypeId} {fs : Array Field} {fuel : Nat} {cs : List Value} {x : DataW H × List MemPlace} {held : Bool} (ht : P.underlying t = some (.slice e)) (he : P.underlying e = some (.struct fs))
    (hone : oneCellFields P fs = true) (hC : P.cellsOf e = fs.size) (h : DataW.trod enc P w 0 (fun _ => true) held fuel t cs = some x) :
    ∃ A n c, cs = [.slice A n c] ∧ n ≤ maxLen ∧ ∀ i, i < n → ∃ a, A = some a ∧ ∀ (j : Nat) (f : Field), fs[j]? = some f → ∃ v y m, w.cell? (a.add (i * fs.size + j)) = some v ∧ DataW.trod enc P w 0 (fun _ => true) held m f.type [v] = some y := by
  rcases open_slice ht h with ⟨h0, _⟩ | ⟨a, len, cap, m, n, D, Pl, hcs, _, hl, hm, hmm, _, hi⟩
  · exact ⟨none, 0, 0, h0, Nat.zero_le _, fun i hi => absurd hi (by omega)⟩
  · refine ⟨some a, len, cap, hcs, Nat.le_trans hl hm, fun i hin => ⟨a, rfl, fun j f hj => ?_⟩⟩
    have him : i < m := by
      simp only [if_true] at hmm
      omega
    obtain ⟨cs', hc, ht'⟩ := hi i him
    rw [hC] at hc
    obtain ⟨ys, n', _, _, _, hyl, hf⟩ := DataW.trod_struct he ht'
    obtain ⟨_, hcl, hat⟩ := World.cells?_some hc
    obtain ⟨ho, hk⟩ := hone_of hone j f hj
    have hjl : j < fs.size := (Array.getElem?_eq_some_iff.1 hj).1
    have hcell := hat j hjl
    have hv : cs'[j]? = some (cs'[j]'(by omega)) := List.getElem?_eq_getElem (by omega)
    have h1 := hf j f hj
    rw [ho, hk] at h1
    rw [show (cs'.drop j).take 1 = [cs'[j]'(by omega)] from by rw [List.drop_eq_getElem_cons (by omega)]; rfl] at h1
    have hys : ys[j]? = some (ys[j]'(by omega)) := List.getElem?_eq_getElem (by omega)
    refine ⟨_, ys[j]'(by omega), n', ?_, h1.trans hys⟩
    rw [← Go.Deep.add_add, hcell, hv]

/-- a slice of whole numbers: where it lies -/
theorem open_nums {t e : TypeId} {k : IntKind} {fuel : Nat} {cs : List Value} {x : DataW H × List MemPlace} {held : Bool} (ht : P.underlying t = some (.slice e)) (he : P.underlying e = some (.int k)) (hc : P.cellsOf e = 1)
    (h : DataW.trod enc P w 0 (fun _ => true) held fuel t cs = some x) :
    ∃ A n c, cs = [.slice A n c] ∧ n ≤ maxLen ∧ ∀ i, i < n → ∃ a q, A = some a ∧ w.cell? (a.add i) = some (.int k q) ∧ (Lit.int k q).wf = true := by
  rcases open_ints ht he hc h with ⟨h0, _⟩ | ⟨a, len, cap, zs, hcs, _, hl, hm, hz, _, hcell, hwz⟩
  · exact ⟨none, 0, 0, h0, Nat.zero_le _, fun i hi => absurd hi (by omega)⟩
  · refine ⟨some a, len, cap, hcs, Nat.le_trans hl hm, fun i hin => ?_⟩
    simp only [if_true] at hz
    have hi : i < zs.length := by omega
    exact ⟨a, zs.getD i 0, rfl, hcell i hi, by rw [List.getD_eq_getElem?_getD, List.getElem?_eq_getElem hi]; exact hwz _ (List.getElem_mem hi)⟩
end
end Go.Proofs.YtjfkfnlnjklcdaaDoor
