/- What the rows' lists of variables give: the table of powers of ten lies as the text lays it. -/
import Derived.Test.YtjfkfnlnjklcdaaDoorText
import Derived.Test.YtjfkfnlnjklcdaaDoorOpen
namespace Go.Proofs.YtjfkfnlnjklcdaaDoor
open Go.RowKit

theorem laid_at {P : Program} {W : World} : ∀ (laid : List (String × DataW Unit)) (ps : List MemPlace), DataW.LaidVars P W laid ps → ∀ n d, (n, d) ∈ laid →
    ∃ g t cs fuel p, P.globalNamed n = some g ∧ (P.globals[g]?).map (·.type) = some t ∧ W.var? P n = some cs ∧ DataW.trod (fun _ => ()) P W 0 (fun _ => true) false fuel t cs.toList = some (d, p) := by
  intro laid
  induction laid with
  | nil => intro ps _ n d h; cases h
  | cons x r ih =>
    intro ps h n d hm
    obtain ⟨n0, d0⟩ := x
    obtain ⟨g, t, cs, fuel, p, q, h1, h2, h3, h4, h5, _⟩ := h
    rcases List.mem_cons.1 hm with e | hm
    · cases e; exact ⟨g, t, cs, fuel, p, h1, h2, h3, h4⟩
    · exact ih q h5 n d hm
theorem laid_var {laid : List (String × DataW Unit)} {W : World} (h : laidMet Tryd.prog laid W) {n : String} {d : DataW Unit} (hm : (n, d) ∈ laid) {g t : Nat} (hg : Tryd.prog.globalNamed n = some g) (ht : (Tryd.prog.globals[g]?).map (·.type) = some t) :
    ∃ cs fuel p, W.var? Tryd.prog n = some cs ∧ DataW.trod (fun _ => ()) Tryd.prog W 0 (fun _ => true) false fuel t cs.toList = some (d, p) := by
  obtain ⟨ps, hl, _⟩ := h
  obtain ⟨g', t', cs, fuel, p, hg', ht', hv, hd⟩ := laid_at laid ps hl n d hm
  obtain rfl := Option.some.inj (hg.symm.trans hg')
  obtain rfl := Option.some.inj (ht.symm.trans ht')
  exact ⟨cs, fuel, p, hv, hd⟩

theorem pow_of_laid {laid : List (String × DataW Unit)} {W : World} (hm : ("internal/strconv.uint64pow10", Rows.laid_internal_strconv_uint64pow10) ∈ laid) (h : laidMet Tryd.prog laid W) : Pow W := by
  obtain ⟨cs, fuel, p, hv, hd⟩ := laid_var (g := 2) (t := 114) h hm (by kernel_rfl) (by kernel_rfl)
  unfold Pow Lib.TabIs
  rw [hv, ← Lib.cells_of_tab Tryd.underlying114 Tryd.underlying28 (by kernel_rfl) (by kernel_rfl) (show DataW.trod (fun _ => ()) Tryd.prog W 0 (fun _ => true) false fuel 114 cs.toList = some (Lib.tabData .u64 Lib.pow10Tab, p) from hd)]
end Go.Proofs.YtjfkfnlnjklcdaaDoor
