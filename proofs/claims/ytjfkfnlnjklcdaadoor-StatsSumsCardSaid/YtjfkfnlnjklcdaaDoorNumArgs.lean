/- What the rows of the laws on numbers list, as the walks want it; a world for the witness. -/
import Derived.Test.YtjfkfnlnjklcdaaDoorLaid
import Derived.Test.YtjfkfnlnjklcdaaDoorNumsW
import Derived.Stop.LaidErr
namespace Go.Proofs.YtjfkfnlnjklcdaaDoor
open Go.ChangeShapes Go.WideShapes Go.ChangeAt Go.RowKit

theorem laid_tail {P : Program} {x : String × DataW Unit} {r : List (String × DataW Unit)} {W : World} (h : laidMet P (x :: r) W) : laidMet P r W := by
  obtain ⟨n, d⟩ := x
  obtain ⟨ps, ⟨g, t, cs, fuel, p, q, h1, h2, h3, h4, h5, rfl⟩, hnd, hrow⟩ := h
  exact ⟨q, h5, (List.nodup_append.1 hnd).2.1, fun b off hm => hrow b off (List.mem_append_right _ hm)⟩

/-- the sentinel's dynamic type is the one of that name -/
theorem star : "*" ++ "errors.errorString" = "*errors.errorString" := by decide
theorem row_err (u : TypeId) (h : Tryd.prog.typeName? 3 u = some "*errors.errorString") : u = 120 :=
  typeName_ptr_named (P := Tryd.prog) (nm := "errors.errorString") (by rw [star]; kernel_rfl) (by kernel_rfl) (by decide) u (by rw [star]; exact h)

theorem env_of_laid {W : World} (h : laidMet Tryd.prog Rows.numsParsesRow.laid W) : Env W := by
  refine ⟨pow_of_laid (List.mem_cons_of_mem _ (List.mem_cons_of_mem _ List.mem_cons_self)) h, ?_⟩
  have h4 : laidMet Tryd.prog [("strconv.ErrRange", Rows.laid_strconv_ErrRange), ("strconv.ErrSyntax", Rows.laid_strconv_ErrSyntax), ("unicode/utf8.first", Rows.laid_unicode_utf8_first)] W := laid_tail (laid_tail (laid_tail (laid_tail h)))
  have hs := laid_sentinel (ti := 70) (tp := 120) (te := 122) (ts := 9) h4 (g := 1) (by kernel_rfl) (by kernel_rfl) Tryd.underlying70 row_err Tryd.underlying120 Tryd.underlying122 rfl rfl Tryd.underlying9 (by kernel_rfl) (by kernel_rfl)
  obtain ⟨a, s, hv, _⟩ := hs
  exact ⟨_, _, hv⟩

/-- the cells of a table of whole numbers -/
def tabCells : DataW Unit → Array Value
  | .agg l => (l.map fun x => match x with | .lit (.int k n) => Value.int k n | _ => undef).toArray
  | _ => #[]
/-- A world for the witness: what the program's own initialisers lay, and the one table that is pinned by name. -/
noncomputable def laidWorld (os : Os) : World :=
  { World.doorLaid Tryd.prog 2000 os with heap := (World.doorLaid Tryd.prog 2000 os).heap.modify 3 fun
      | .cells _ t frozen => .cells (tabCells Go.Pinned.utf8First) t frozen
      | o => o }
end Go.Proofs.YtjfkfnlnjklcdaaDoor
