/- put: an item becomes the key's, with a token. -/
import Derived.Test.YtfmpdbngpknmaaaDoorBD
import Derived.Deep.DeepCutAuto
import Derived.Deep.CutBlock
import Derived.Deep.RegionHeld3
import Derived.Lib.AppendZeros
namespace Go.Proofs.YtfmpdbngpknmaaaDoor
set_option linter.unusedSimpArgs false
set_option linter.unusedVariables false
open Go.RowKit

theorem ownsRow_succ8 {W : World} {base : Nat} {e : TypeId} {size : Nat} {v : Value} {k : Nat} {xs : List Value} (h : W.ownsRow base e size v (k + 1) xs) : ∃ g cap, v = .slice (some ⟨g, 0, none⟩) (k + 1) cap := by
  rcases h.2 with ⟨_, h0⟩ | ⟨g, cap, _, rfl, _⟩
  · omega
  · exact ⟨g, cap, rfl⟩
/-- v is a slice of the items xs: of none, or a row of its own -/
def OwnI (base : Nat) (w : World) (v : Value) (xs : List It) : Prop := (∃ p, v = .slice p 0 0 ∧ xs = []) ∨ ∃ g cap R, v = .slice (some ⟨g, 0, none⟩) xs.length cap ∧ base ≤ g ∧ 0 < cap ∧ Items w g cap xs R
/-- the block that a slice owns -/
def oB : Value → Option Nat
  | .slice (some a) _ (_ + 1) => some a.block
  | _ => none
theorem oB_some {a : Addr} {n c k : Nat} (h : oB (.slice (some a) n c) = some k) : a.block = k := by
  cases c with
  | zero => cases h
  | succ c => exact Option.some.inj h
theorem oB_pos {a : Addr} {n c : Nat} (h : 0 < c) : oB (.slice (some a) n c) = some a.block := by
  cases c with
  | zero => omega
  | succ c => rfl
theorem oB_nil (p : Option Addr) : oB (.slice p 0 0) = none := by cases p <;> rfl
theorem oB_own {g n c : Nat} (h : 0 < c) : (Value.slice (some ⟨g, 0, none⟩) n c).ownBlock = oB (.slice (some ⟨g, 0, none⟩) n c) := by rw [oB_pos h]; rfl
theorem OwnI.lt {base : Nat} {w : World} {v : Value} {xs : List It} (h : OwnI base w v xs) : ∀ k, oB v = some k → base ≤ k ∧ k < w.heap.size := by
  intro k hk
  rcases h with ⟨p, rfl, _⟩ | ⟨g, cap, R, rfl, hb, _, hI⟩
  · rw [oB_nil] at hk; cases hk
  · have := oB_some hk
    subst this
    exact ⟨hb, hI.lt⟩
theorem OwnI.of_row {base : Nat} {w : World} {v : Value} {xs : List It} (h : w.ownsRow base 31 8 v xs.length (flat xs)) : OwnI base w v xs := by
  rcases Items.of_own h with ⟨h1, h2⟩ | ⟨g, cap, R, rfl, hb, hI⟩
  · exact .inl ⟨none, h1, h2⟩
  · by_cases hc : 0 < cap
    · exact .inr ⟨g, cap, R, rfl, hb, hc, hI⟩
    · have h1 := hI.le
      have h2 : xs = [] := List.length_eq_zero_iff.1 (by omega)
      subst h2
      obtain rfl : cap = 0 := by omega
      exact .inl ⟨_, rfl, rfl⟩

set_option maxRecDepth 100000 in
set_option maxHeartbeats 2000000 in
/-- slices.Insert of one item into an empty slice without room -/
theorem insert_none (vb vc : Nat) (p : Addr) (x : It) (w : World) (hv : Blk w vb 31 (itA x)) :
    Calls Tryd.prog 44 #[.slice (some p) 0 0, .int .i64 0, .slice (some ⟨vb, 0, none⟩) 1 vc] w fun e w' =>
      ∃ g cap R, e = .returned (.slice (some ⟨g, 0, none⟩) 1 cap) ∧ w.heap.size ≤ g ∧ 0 < cap ∧ Items w' g cap [x] R ∧ Upd Non w w' := by
  obtain ⟨i0, hi0, hz0, hz1, hz2⟩ := info_parts info31
  have hnews : ∀ j u, x.cells[j]? = some u → w.cell? ((⟨vb, 0, none⟩ : Addr).add j) = some u := fun j u hj => by rw [Addr.add_lit, Nat.zero_add, hv.cell, getElem?_itA]; exact hj
  have hcl := x.cells_len
  have hge := grownCap_ge w 1 0 31
  have hcm := grownCap_le_maxLen w 1 0 31 (by unfold maxLen; omega)
  have hr : ∀ ty, (Builtin.append_ #[27, 27] ty #[.slice (some p) 0 0, .slice (some ⟨vb, 0, none⟩) 1 vc]).run Tryd.prog w = .ok (.slice (some ⟨w.heap.size, 0, none⟩) 1 (grownCap w 1 0 31)) (w.drew.alloc (.cells (#[] ++ x.cells.toArray ++ Builtin.zeroCells (Value.agg (itA It.zero)).cells (grownCap w 1 0 31 - 1)) 31)) := fun ty => by
    have h := run_append_grow (P := Tryd.prog) w 27 ty 31 i0 _ Tryd.underlying27 hi0 hz0 p 0 0 [] (by simp) (by simp) ⟨vb, 0, none⟩ 1 vc x.cells (by rw [hz1]; rfl) hnews (by omega) (by omega) (by rw [nextslicecap_zero (by omega), hz2]; omega)
    simpa using h
  have hI : Items (w.drew.alloc (.cells (#[] ++ x.cells.toArray ++ Builtin.zeroCells (Value.agg (itA It.zero)).cells (grownCap w 1 0 31 - 1)) 31)) w.heap.size (grownCap w 1 0 31) [x] (Builtin.zeroCells (Value.agg (itA It.zero)).cells (grownCap w 1 0 31 - 1)).toList := by
    refine ⟨?_, ?_, hcm⟩
    · refine (heap_alloc_new w.drew _).trans ?_
      congr 2
      apply Array.ext'
      simp [flat]
    · rw [zeroCells_len]
      show 1 * 8 + (grownCap w 1 0 31 - 1) * 8 = _
      omega
  have hU : Upd Non w (w.drew.alloc (.cells (#[] ++ x.cells.toArray ++ Builtin.zeroCells (Value.agg (itA It.zero)).cells (grownCap w 1 0 31 - 1)) 31)) := ((Upd.refl _ w).drew).alloc _
  obtain ⟨w1, hw1⟩ : ∃ w1, w1 = w.drew.alloc (.cells (#[] ++ x.cells.toArray ++ Builtin.zeroCells (Value.agg (itA It.zero)).cells (grownCap w 1 0 31 - 1)) 31) := ⟨_, rfl⟩
  obtain ⟨cp, hcp⟩ : ∃ cp, cp = grownCap w 1 0 31 := ⟨_, rfl⟩
  rw [← hw1] at hI hU hr
  rw [← hcp] at hI hr hge
  have HI := Lib.hid hI; have HU := Lib.hid hU; have HR := Lib.hid hr
  clear hw1 hcp hI hU hr hnews hcl hcm hi0 hz0 hz1 hz2
  go_enter Tryd.func44, Tryd.ntmps44
  go_wp2_with (at_builtin; refine Lib.wpList_append_run _ rfl _ _ _ _ rfl _ _ rfl rfl _ _ (HR.out _) ?_)
  go_ret
  exact ⟨_, _, _, rfl, Nat.le_refl _, hge, HI.out, HU.out⟩

theorem insert1o (base vb vc i : Nat) (v : Value) (xs : List It) (x : It) (w : World) (ho : OwnI base w v xs) (hi : i ≤ xs.length) (hv : Blk w vb 31 (itA x)) (hne : oB v ≠ some vb) (hbase : base ≤ w.heap.size) (hn : xs.length ≤ 1000000000) :
    Calls Tryd.prog 44 #[v, .int .i64 i, .slice (some ⟨vb, 0, none⟩) 1 vc] w fun e w' =>
      ∃ g cap, e = .returned (.slice (some ⟨g, 0, none⟩) (xs.length + 1) cap) ∧ OwnI base w' (.slice (some ⟨g, 0, none⟩) (xs.length + 1) cap) (xs.take i ++ x :: xs.drop i) ∧ Upd (fun k => oB v = some k) w w' ∧ (oB v = some g ∨ w.heap.size ≤ g) := by
  have hlen : (xs.take i ++ x :: xs.drop i).length = xs.length + 1 := by rw [List.length_append, List.length_take, List.length_cons, List.length_drop]; omega
  have key : v.ownBlock = oB v → w.ownsRow base 31 8 v xs.length (flat xs) → Calls Tryd.prog 44 #[v, .int .i64 i, .slice (some ⟨vb, 0, none⟩) 1 vc] w fun e w' =>
      ∃ g cap, e = .returned (.slice (some ⟨g, 0, none⟩) (xs.length + 1) cap) ∧ OwnI base w' (.slice (some ⟨g, 0, none⟩) (xs.length + 1) cap) (xs.take i ++ x :: xs.drop i) ∧ Upd (fun k => oB v = some k) w w' ∧ (oB v = some g ∨ w.heap.size ≤ g) := by
    intro hob hrow
    refine (insert1 base vb vc i v xs x w hrow hi hv (by rw [hob]; exact hne) hbase hn).mono ?_
    rintro e w' ⟨v', rfl, ho3, hu3, hat3⟩
    have ho4 := OwnI.of_row ho3
    rw [hob] at hu3 hat3
    rw [hlen] at ho3
    obtain ⟨g', cap', rfl⟩ := ownsRow_succ8 ho3
    refine ⟨g', cap', rfl, ho4, hu3, ?_⟩
    rcases hat3 with h | ⟨k, h, hk⟩
    · exact .inl h.symm
    · obtain rfl : g' = k := Option.some.inj h
      exact .inr hk
  rcases ho with ⟨p, rfl, rfl⟩ | ⟨g, cap, R, rfl, hb, hc, hI⟩
  · cases p with
    | none => exact key rfl (World.ownsRow_nil w base _ _)
    | some p =>
      obtain rfl : i = 0 := by simpa using hi
      refine (insert_none vb vc p x w hv).mono ?_
      rintro e w' ⟨g, cap, R, rfl, hg, hc, hI, hU⟩
      exact ⟨g, cap, rfl, .inr ⟨g, cap, R, rfl, by omega, hc, hI⟩, hU.non, .inr hg⟩
  · exact key (oB_own hc) (hI.own hb)

/-- what a command is worked on by, in memory: v: the slice of its items -/
structure WS (base : Nat) (w : World) (g : Nat) (v : Value) (X : St) (now : Int) (c : Cd) (most : Int) (i : Nat) (is : Bool) : Prop where
  blk : Blk w g 49 (woA v X now c most i is)
  own : OwnI base w v X.items
  low : base ≤ g

theorem own_ne {w : World} {g base : Nat} {t : TypeId} {cs : Array Value} {v : Value} {xs : List It} (hb : Blk w g t cs) (ho : OwnI base w v xs) (ht : t ≠ 31) : oB v ≠ some g := by
  rcases ho with ⟨p, rfl, _⟩ | ⟨r, cap, R, rfl, _, _, hr⟩
  · rw [oB_nil]; intro h; cases h
  · intro h
    obtain rfl : r = g := oB_some h
    have := hb.symm.trans hr.heap
    injection this with h1
    injection h1 with _ h2
    exact ht h2
theorem own_upd {w w' : World} {S : Nat → Prop} {base : Nat} {v : Value} {xs : List It} (ho : OwnI base w v xs) (hu : Upd S w w') (hS : ∀ k, oB v = some k → ¬ S k) : OwnI base w' v xs := by
  rcases ho with h | ⟨r, cap, R, rfl, h2, h3, h4⟩
  · exact .inl h
  · exact .inr ⟨r, cap, R, rfl, h2, h3, h4.kept (hu.block r h4.lt (hS r (oB_pos h3)))⟩

theorem below_of_upd {w w' : World} {S : Nat → Prop} {base : Nat} (h : Upd S w w') (hb : base ≤ w.heap.size) (hS : ∀ k, k < base → ¬ S k) : Below base w w' :=
  ⟨h.os, h.tape, h.output, h.size, fun k hk => h.block k (Nat.lt_of_lt_of_le hk hb) (hS k hk)⟩

theorem step_store_item {ops : Array Oper} {op : Oper} {a : Act} {Q : Exit → Act → World → Prop} {K : Act → World → Prop} {E : Prop} {w : World} (hgd : op.guard = none) (x y : Operand) (ho : op.op = .store 31 x y)
    (g i cap : Nat) (xs : List It) (R : List Value) (hI : Items w g cap xs R) (z : It) (hi : i < xs.length) (hx : a.eval x = .pointer (some ⟨g, i * 8, none⟩)) (hy : a.eval y = .agg (itA z))
    (hK : ∀ w', Items w' g cap (xs.set i z) R → Upd (One g) w w' → K (a.put op.dst undef) w') :
    if Region.wanted op (yielded ops a.tmps) = true then Oper.wp Tryd.prog op a w K Q else E := by
  have hw : Region.wanted op (yielded ops a.tmps) = true := by simp [Region.wanted, hgd]
  rw [if_pos hw]
  obtain ⟨i0, hi0, hz0, hz1, hz2⟩ := info_parts info31
  have hst := run_storeCells_at Tryd.prog g (i * 8) 31 z.cells 0 _ w hI.heap (by rw [It.cells_len, List.size_toArray, List.length_append, flat_len]; omega) z.cells_one
  simp only [Nat.add_zero] at hst
  have hrun : (storeVar 31 ⟨g, i * 8, none⟩ (.agg (itA z))).run Tryd.prog w = .ok () (w.setRow g (over (flat xs ++ R).toArray (i * 8) z.cells)) := by
    simp [storeVar, sizeOf, typeInfo, hi0, Value.cells, itA_list, hz1, hst, over, show (itA z).size = 8 from rfl]
  unfold Oper.wp execOp
  simp only [ho, hx, hy, Instr.storeAt, Instr.sureAddr, Sem.run_bind, Sem.run_pure, Result.andThen_ok, hrun]
  exact hK _ (hI.put i hi z) ((Upd.refl (One g) w).setRow (g := g) (fun _ => rfl) _)

theorem Items.drewN {w : World} {g cap : Nat} {xs : List It} {R : List Value} (h : Items w g cap xs R) (n : Nat) : Items (w.drewN n) g cap xs R := ⟨h.heap, h.fit, h.big⟩
theorem Below.drewN {B : Nat} {w w' : World} (h : Below B w w') (n : Nat) : Below B w (w'.drewN n) := ⟨h.os, h.tape, h.output, h.size, h.block⟩
theorem setCells_row {w : World} {g cap : Nat} {xs : List It} {R : List Value} (hI : Items w g cap xs R) (i : Nat) (hi : i < xs.length) (z : It) :
    w.setCells g (i * 8) z.cells = w.setRow g (over (flat xs ++ R).toArray (i * 8) z.cells) := by
  have h1 := run_storeCells_at Tryd.prog g (i * 8) 31 z.cells 0 _ w hI.heap (by rw [It.cells_len, List.size_toArray, List.length_append, flat_len]; omega) z.cells_one
  have h2 := run_storeCells_cells (P := Tryd.prog) g (i * 8) z.cells 0 w (fun j hj => by
    rw [Nat.add_zero, hI.cell, List.getElem?_append_left (by rw [It.cells_len] at hj; rw [flat_len]; omega), List.getElem?_eq_getElem (by rw [It.cells_len] at hj; rw [flat_len]; omega)]; rfl) (fun j _ => by rw [Nat.add_zero]; exact hI.frozen _) z.cells_one
  have h3 := h2.symm.trans h1
  injection h3 with _ h4
/-- an item written cell by cell -/
theorem Items.put8 {w : World} {g cap : Nat} {xs : List It} {R : List Value} (hI : Items w g cap xs R) (i : Nat) (hi : i < xs.length) (z : It) :
    Items ((((((((w.setCell ⟨g, i * 8, none⟩ (.string ⟨z.key.toArray⟩)).setCell ⟨g, i * 8 + 1, none⟩ (.int .u32 z.flags)).setCell ⟨g, i * 8 + 2, none⟩ (.string ⟨z.val.toArray⟩)).setCell ⟨g, i * 8 + 3, none⟩ (.int .i64 z.exp)).setCell ⟨g, i * 8 + 4, none⟩ (.int .u64 z.cas)).setCell ⟨g, i * 8 + 5, none⟩ (.int .i64 z.last)).setCell ⟨g, i * 8 + 6, none⟩ (.bool z.stale)).setCell ⟨g, i * 8 + 7, none⟩ (.bool z.won)) g cap (xs.set i z) R ∧
    Upd (One g) w ((((((((w.setCell ⟨g, i * 8, none⟩ (.string ⟨z.key.toArray⟩)).setCell ⟨g, i * 8 + 1, none⟩ (.int .u32 z.flags)).setCell ⟨g, i * 8 + 2, none⟩ (.string ⟨z.val.toArray⟩)).setCell ⟨g, i * 8 + 3, none⟩ (.int .i64 z.exp)).setCell ⟨g, i * 8 + 4, none⟩ (.int .u64 z.cas)).setCell ⟨g, i * 8 + 5, none⟩ (.int .i64 z.last)).setCell ⟨g, i * 8 + 6, none⟩ (.bool z.stale)).setCell ⟨g, i * 8 + 7, none⟩ (.bool z.won)) := by
  show Items (w.setCells g (i * 8) z.cells) _ _ _ _ ∧ Upd (One g) w (w.setCells g (i * 8) z.cells)
  rw [setCells_row hI i hi z]
  exact ⟨hI.put i hi z, (Upd.refl (One g) w).setRow (g := g) (fun _ => rfl) _⟩

set_option maxRecDepth 100000 in
set_option maxHeartbeats 4000000 in
theorem put (base g : Nat) (v : Value) (X : St) (now : Int) (c : Cd) (most : Int) (i : Nat) (is : Bool) (x : It) (w : World) (h : WS base w g v X now c most i is) (hbase : base ≤ w.heap.size)
    (hi : i ≤ X.items.length) (his : is = true → i < X.items.length) (hn : X.items.length ≤ 100000000) :
    Calls Tryd.prog 34 #[.pointer (some ⟨g, 0, none⟩), .agg (itA x)] w fun e w' =>
      ∃ r cap, e = .returned (.pointer (some ⟨r, i * 8, none⟩)) ∧ WS base w' g (.slice (some ⟨r, 0, none⟩) (putF X i is x).1.items.length cap) (putF X i is x).1 now c most i is ∧ Upd (fun k => k = g ∨ oB v = some k) w w' ∧ (oB v = some r ∨ w.heap.size ≤ r) := by
  have hgl := h.blk.lt
  have e0 : w.cell? ⟨g, 0, none⟩ = some v := h.blk.cell 0
  have e1 : w.cell? ⟨g, 1, none⟩ = some (.int .u64 X.cas) := h.blk.cell 1
  have zk : w.cell? ⟨g, 21, none⟩ = some (.int .i64 i) := h.blk.cell 21
  have zl : w.cell? ⟨g, 22, none⟩ = some (.bool is) := h.blk.cell 22
  have f1 := h.blk.frozen 1
  have H := Lib.hid h; clear h
  go_enter Tryd.func34, Tryd.ntmps34
  simp only [itA]
  go_upto_region 2 with fail
  go_cut [] (fun wx => Blk wx g 49 (woA v { X with cas := IntKind.u64.wrap (X.cas + 1) } now c most i is) ∧ Blk wx w.heap.size 31 (itA { x with cas := IntKind.u64.wrap (X.cas + 1) }) ∧ Upd (One g) w wx)
  case first =>
    go_wp2_with fail
    go_meet
    refine ⟨((H.out.blk.set_ 1 _).alloc _).to rfl, ?_, ((Upd.refl (One g) w).setOne 1 _).alloc _⟩
    have hz := Blk.new (w.setCell ⟨g, 1, none⟩ (.int .u64 (IntKind.u64.wrap (X.cas + 1)))) 31 (itA { x with cas := IntKind.u64.wrap (X.cas + 1) })
    rwa [show (w.setCell ⟨g, 1, none⟩ (.int .u64 (IntKind.u64.wrap (X.cas + 1)))).heap.size = w.heap.size by simp [World.setCell]] at hz
  case rest =>
    obtain ⟨hb, hbx, hu⟩ := hcut
    clear e0 e1 zk zl f1
    obtain ⟨y, hy⟩ : ∃ y : It, y = { x with cas := IntKind.u64.wrap (X.cas + 1) } := ⟨_, rfl⟩
    rw [← hy] at hbx
    have hvg := own_ne H.out.blk H.out.own (by decide)
    have hown : OwnI base wc v X.items := own_upd H.out.own hu (fun k hk e => hvg (by rw [hk, show k = g from e]))
    have hgb := H.out.low
    have hbl : Upd (fun k => k = g ∨ oB v = some k) w wc := hu.mono (fun k _ e => .inl e)
    have HU := Lib.hid hu; have HB := Lib.hid hb; have HX := Lib.hid hbx; have HO := Lib.hid hown; have HBL := Lib.hid hbl; have HY := Lib.hid hy
    have e0 : wc.cell? ⟨g, 0, none⟩ = some v := hb.cell 0
    have zk : wc.cell? ⟨g, 21, none⟩ = some (.int .i64 i) := hb.cell 21
    have zl : wc.cell? ⟨g, 22, none⟩ = some (.bool is) := hb.cell 22
    have f0 := hb.frozen 0
    have x0 : wc.cell? ⟨w.heap.size, 0, none⟩ = some (.string ⟨y.key.toArray⟩) := hbx.cell 0
    have x1 : wc.cell? ⟨w.heap.size, 1, none⟩ = some (.int .u32 y.flags) := hbx.cell 1
    have x2 : wc.cell? ⟨w.heap.size, 2, none⟩ = some (.string ⟨y.val.toArray⟩) := hbx.cell 2
    have x3 : wc.cell? ⟨w.heap.size, 3, none⟩ = some (.int .i64 y.exp) := hbx.cell 3
    have x4 : wc.cell? ⟨w.heap.size, 4, none⟩ = some (.int .u64 y.cas) := hbx.cell 4
    have x5 : wc.cell? ⟨w.heap.size, 5, none⟩ = some (.int .i64 y.last) := hbx.cell 5
    have x6 : wc.cell? ⟨w.heap.size, 6, none⟩ = some (.bool y.stale) := hbx.cell 6
    have x7 : wc.cell? ⟨w.heap.size, 7, none⟩ = some (.bool y.won) := hbx.cell 7
    clear hu hb hbx hown hbl hy
    cases is with
    | true =>
      have hil := his rfl
      rcases HO.out with ⟨p, _, h0⟩ | ⟨r, cap, R, rfl, hbr, hcp, hI⟩
      · rw [h0] at hil; simp at hil
      have HCP := Lib.hid hcp; clear hcp
      have HI := Lib.hid hI; clear hI
      obtain ⟨n, hn'⟩ : ∃ n, n = X.items.length := ⟨_, rfl⟩
      rw [← hn'] at hil hn hi e0
      have HN := Lib.hid hn'; clear hn'
      obtain ⟨u, hu⟩ : ∃ u, X.items[i]? = some u := ⟨X.items[i]'(by rw [← HN.out]; exact hil), List.getElem?_eq_getElem _⟩
      have r0 : wc.cell? ⟨r, i * 8, none⟩ = some (.string ⟨u.key.toArray⟩) := HI.out.at hu 0 (by omega)
      have r1 : wc.cell? ⟨r, i * 8 + 1, none⟩ = some (.int .u32 u.flags) := HI.out.at hu 1 (by omega)
      have r2 : wc.cell? ⟨r, i * 8 + 2, none⟩ = some (.string ⟨u.val.toArray⟩) := HI.out.at hu 2 (by omega)
      have r3 : wc.cell? ⟨r, i * 8 + 3, none⟩ = some (.int .i64 u.exp) := HI.out.at hu 3 (by omega)
      have r4 : wc.cell? ⟨r, i * 8 + 4, none⟩ = some (.int .u64 u.cas) := HI.out.at hu 4 (by omega)
      have r5 : wc.cell? ⟨r, i * 8 + 5, none⟩ = some (.int .i64 u.last) := HI.out.at hu 5 (by omega)
      have r6 : wc.cell? ⟨r, i * 8 + 6, none⟩ = some (.bool u.stale) := HI.out.at hu 6 (by omega)
      have r7 : wc.cell? ⟨r, i * 8 + 7, none⟩ = some (.bool u.won) := HI.out.at hu 7 (by omega)
      have s0 : wc.frozen? ⟨r, i * 8, none⟩ = false := HI.out.frozen _
      have s1 : wc.frozen? ⟨r, i * 8 + 1, none⟩ = false := HI.out.frozen _
      have s2 : wc.frozen? ⟨r, i * 8 + 2, none⟩ = false := HI.out.frozen _
      have s3 : wc.frozen? ⟨r, i * 8 + 3, none⟩ = false := HI.out.frozen _
      have s4 : wc.frozen? ⟨r, i * 8 + 4, none⟩ = false := HI.out.frozen _
      have s5 : wc.frozen? ⟨r, i * 8 + 5, none⟩ = false := HI.out.frozen _
      have s6 : wc.frozen? ⟨r, i * 8 + 6, none⟩ = false := HI.out.frozen _
      have s7 : wc.frozen? ⟨r, i * 8 + 7, none⟩ = false := HI.out.frozen _
      have HU2 := Lib.hid hu; clear hu
      have hgr : g ≠ r := fun e => hvg (by rw [e]; exact oB_pos HCP.out)
      have hrg : r ≠ g := fun e => hgr e.symm
      go_wp2_with fail
      go_region_law (first
        | (go_simp; go_at_call 25; refine (item g r n cap i hil _ (by simpa using e0) (by simpa using zk)).mono ?_; rintro e w' ⟨rfl, q, rfl⟩))
      all_goals
        go_wp2_with fail
        refine (item g r n cap i hil _ (by go_simp) (by go_simp)).mono ?_
        rintro e w' ⟨rfl, q2, rfl⟩
        go_wp2_with fail
        go_ret
        have P := fun k => Items.put8 (HI.out.drewN k) i (by rw [← HN.out]; exact hil) y
        have hF : (putF X i true x).1 = { X with cas := IntKind.u64.wrap (X.cas + 1), items := X.items.set i y } := by rw [HY.out]; rfl
        rw [hF]
        have hl : (X.items.set i y).length = X.items.length := List.length_set
        refine ⟨r, cap, rfl, ⟨?_, ?_, H.out.low⟩, ?_⟩
        · show Blk _ g _ (woA (.slice (some ⟨r, 0, none⟩) (X.items.set i y).length cap) _ now c most i true)
          rw [hl]
          exact ((HB.out.drewN _).upd (P _).2 hgr).drewN _
        · exact .inr ⟨r, cap, R, rfl, hbr, HCP.out, (P _).1.drewN _⟩
        · exact ⟨((HBL.out.drewN _).trans (P _).2 (fun k _ e => .inr (by rw [show k = r from e]; exact oB_pos HCP.out))).drewN _, .inl (oB_pos HCP.out)⟩
    | false =>
      have hxw : w.heap.size < wc.heap.size := HX.out.lt
      have hvx : oB v ≠ some w.heap.size := fun h => by have := (H.out.own.lt _ h).2; omega
      have HU1 : ∀ o, Upd (fun k => oB v = some k) wc (wc.drew.alloc o) := fun o => ((Upd.refl _ wc).drew).alloc o
      have HU1 := Lib.hid HU1
      have hlt : ∀ k, oB v = some k → k < wc.heap.size := fun k hk => (HO.out.lt k hk).2
      have HLT := Lib.hid hlt; clear hlt
      have hlen : (X.items.take i ++ y :: X.items.drop i).length = X.items.length + 1 := by rw [List.length_append, List.length_take, List.length_cons, List.length_drop]; omega
      have HLEN := Lib.hid hlen; clear hlen
      have C : Calls Tryd.prog 44 #[v, .int .i64 i, .slice (some ⟨wc.heap.size, 0, none⟩) 1 1] (wc.alloc (.cells (itA y) 31)).drew fun e w3 =>
          ∃ g' cap', e = .returned (.slice (some ⟨g', 0, none⟩) (X.items.length + 1) cap') ∧ w3.cell? ⟨g, 0, none⟩ = some v ∧ w3.frozen? ⟨g, 0, none⟩ = false ∧
            Hid (Blk w3 g 49 (woA v { X with cas := IntKind.u64.wrap (X.cas + 1) } now c most i false) ∧ OwnI base w3 (.slice (some ⟨g', 0, none⟩) (X.items.length + 1) cap') (X.items.take i ++ y :: X.items.drop i) ∧ Upd (fun k => oB v = some k) wc w3 ∧ (oB v = some g' ∨ wc.heap.size ≤ g')) := by
        have hU : Upd (fun k => oB v = some k) wc (wc.alloc (.cells (itA y) 31)).drew := ((Upd.refl _ wc).alloc _).drew
        have hU0 : Upd Non wc (wc.alloc (.cells (itA y) 31)).drew := ((Upd.refl _ wc).alloc _).drew
        have hsz : base ≤ wc.heap.size := Nat.le_trans hbase HU.out.size
        refine (insert1o base wc.heap.size 1 i v X.items y _ (own_upd HO.out hU0 (fun k _ h => h)) hi (Blk.new wc _ (itA y)).drew (fun hk => by have := HLT.out _ hk; omega) (Nat.le_trans hsz hU.size) (by omega)).mono ?_
        rintro e w3 ⟨g', cap', rfl, ho3, hu3, hat3⟩
        have hu4 := hU.same hu3
        have hb3 := HB.out.upd hu4 hvg
        exact ⟨g', cap', rfl, hb3.cell 0, hb3.frozen 0, Lib.hid ⟨hb3, ho3, hu4, hat3.imp id (fun hl => Nat.le_trans hU0.size hl)⟩⟩
      have HC := Lib.hid C; clear C
      have a0 : ∀ o, (wc.alloc o).cell? ⟨g, 0, none⟩ = some v := fun o => Lib.cell?_alloc_some o e0
      have a21 : ∀ o, (wc.alloc o).cell? ⟨g, 21, none⟩ = some (.int .i64 i) := fun o => Lib.cell?_alloc_some o zk
      go_wp2_with fail
      go_cut [] (fun wx => ∃ g' cap', Blk wx g 49 (woA (.slice (some ⟨g', 0, none⟩) (X.items.length + 1) cap') { X with cas := IntKind.u64.wrap (X.cas + 1) } now c most i false) ∧ OwnI base wx (.slice (some ⟨g', 0, none⟩) (X.items.length + 1) cap') (X.items.take i ++ y :: X.items.drop i) ∧ Upd (fun k => k = g ∨ oB v = some k) w wx ∧ (oB v = some g' ∨ w.heap.size ≤ g'))
      case first =>
        go_region_with (first
          | (go_at_call 44; refine HC.out.mono ?_; rintro e w3 ⟨g', cap', rfl, hc3, hf3, hR3⟩))
        all_goals
          go_wp2_with fail
          go_meet
          refine ⟨g', cap', (hR3.out.1.set_ 0 _).to rfl, ?_, (HBL.out.trans hR3.out.2.2.1 (fun k _ e => .inr e)).setCell (p := ⟨g, 0, none⟩) (fun _ => .inl rfl) _, hR3.out.2.2.2.imp id (fun h => Nat.le_trans HBL.out.size h)⟩
          have hng := own_ne hR3.out.1 hR3.out.2.1 (by decide)
          exact own_upd hR3.out.2.1 ((Upd.refl (One g) w3).setOne 0 _) (fun k hk e => hng (by rw [hk, show k = g from e]))
      case rest =>
        obtain ⟨g', cap', hb3, ho3, hbl3, hat3⟩ := hcut
        have d0 : wc.cell? ⟨g, 0, none⟩ = some (.slice (some ⟨g', 0, none⟩) (X.items.length + 1) cap') := hb3.cell 0
        have d21 : wc.cell? ⟨g, 21, none⟩ = some (.int .i64 i) := hb3.cell 21
        have HB3 := Lib.hid hb3; have HO3 := Lib.hid ho3; have HBL3 := Lib.hid hbl3; have HAT3 := Lib.hid hat3; clear hb3 ho3 hbl3 hat3
        go_wp2_with fail
        refine (item g g' (X.items.length + 1) cap' i (by omega) wc d0 d21).mono ?_
        rintro e w' ⟨rfl, q2, rfl⟩
        go_wp2_with fail
        go_ret
        have hF : (putF X i false x).1 = { X with cas := IntKind.u64.wrap (X.cas + 1), items := X.items.take i ++ y :: X.items.drop i } := by rw [HY.out]; rfl
        rw [hF]
        refine ⟨g', cap', rfl, ⟨?_, ?_, hgb⟩, HBL3.out.drewN _, HAT3.out⟩
        · show Blk _ g _ (woA (.slice (some ⟨g', 0, none⟩) (X.items.take i ++ y :: X.items.drop i).length cap') _ now c most i false)
          rw [HLEN.out]
          exact HB3.out.drewN _
        · show OwnI base _ (.slice (some ⟨g', 0, none⟩) (X.items.take i ++ y :: X.items.drop i).length cap') _
          rw [HLEN.out]
          exact own_upd HO3.out ((Upd.refl Non _).drewN q2) (fun k _ h => h)
end Go.Proofs.YtfmpdbngpknmaaaDoor
/- What Apply does to a state's items ahead of its command: they are copied, those that are gone struck, the key's place is found. -/
namespace Go.Proofs.YtfmpdbngpknmaaaDoor
set_option linter.unusedSimpArgs false
set_option linter.unusedVariables false
open Go.RowKit

set_option maxRecDepth 100000
theorem clone_nil (w : World) : Calls Tryd.prog 17 #[.slice none 0 0] w fun e w' => e = .returned (.slice none 0 0) ∧ w = w' := by
  have hq : ∀ w, (binOp .eql 27 (.slice none 0 0) (.slice none 0 0)).run Tryd.prog w = .ok (.bool true) w := fun w => Lib.run_eql_slice_nil w _ _ none 0 0 0 0 Tryd.underlying27
  go_enter Tryd.func17, Tryd.ntmps17
  go_wp2_with fail
  go_ret
  exact ⟨rfl, rfl⟩
set_option maxHeartbeats 1000000 in
theorem clone_some (a : Addr) (n c : Nat) (xs : List It) (hn : xs.length = n) (hle : n ≤ 1000000000) (w : World) (hsrc : ∀ j u, (flat xs)[j]? = some u → w.cell? (a.add j) = some u) :
    Calls Tryd.prog 17 #[.slice (some a) n c] w fun e w' => ∃ v', e = .returned v' ∧ OwnI w.heap.size w' v' xs ∧ Below w.heap.size w w' := by
  obtain ⟨i0, hi0, hz0, hz1, hz2⟩ := info_parts info31
  have hcl : (flat xs).length = n * 8 := by rw [flat_len, hn]
  have hone := flat_one xs
  have key : ∀ v' w', w'.ownsRow w.heap.size 31 8 v' (0 + n) ([] ++ flat xs) → OwnI w.heap.size w' v' xs := fun v' w' h => by
    rw [List.nil_append, Nat.zero_add, ← hn] at h
    exact OwnI.of_row h
  obtain ⟨C, hC⟩ : ∃ C, C = flat xs := ⟨_, rfl⟩
  rw [← hC] at hcl hone hsrc key
  have hown : (w.alloc (.cells #[] 31)).ownsRow w.heap.size 31 8 (.slice (some ⟨w.heap.size, 0, none⟩) 0 0) 0 [] := by
    refine ⟨rfl, .inr ⟨w.heap.size, 0, #[], rfl, Nat.le_refl _, heap_alloc_new w _, Nat.le_refl _, by unfold maxLen; omega, rfl, rfl⟩⟩
  have hnews : ∀ j u, C[j]? = some u → (w.alloc (.cells #[] 31)).cell? (a.add j) = some u := fun j u hj => Lib.cell?_alloc_some _ (hsrc j u hj)
  have HCL := Lib.hid hcl; have HONE := Lib.hid hone; have HKEY := Lib.hid key; have HOWN := Lib.hid hown; have HNEWS := Lib.hid hnews
  clear hcl hone key hown hnews hsrc hC hn
  have hq : ∀ w, (binOp .eql 27 (.slice (some a) n c) (.slice none 0 0)).run Tryd.prog w = .ok (.bool false) w := fun w => Lib.run_eql_slice_nil w _ _ (some a) n c 0 0 Tryd.underlying27
  go_enter Tryd.func17, Tryd.ntmps17
  go_wp2_with (at_builtin; refine wpList_append_own_at _ rfl _ _ 27 rfl w.heap.size 31 i0 _ 8 72 Tryd.underlying27 hi0 hz0 hz1 hz2 rfl (by decide) _ 0 [] rfl HOWN.out a n c C rfl HCL.out HNEWS.out HONE.out (by unfold maxLen; omega) (by omega) (by simp) ?_; intro v' w1 hown' hgrow _ hat)
  go_ret
  refine ⟨v', rfl, HKEY.out _ _ hown', ?_⟩
  have hU : Upd Non w w1 := ((Upd.refl Non w).alloc _).trans (upd_of_grown hgrow) (fun i hi h => by have : w.heap.size = i := Option.some.inj h; omega)
  exact hU.to_below
theorem clone_op (v : Value) (xs : List It) (w : World) (ho : OwnI 0 w v xs) (hn : xs.length ≤ 1000000000) :
    Calls Tryd.prog 17 #[v] w fun e w' => ∃ v', e = .returned v' ∧ OwnI w.heap.size w' v' xs ∧ Below w.heap.size w w' := by
  rcases ho with ⟨p, rfl, rfl⟩ | ⟨g, cap, R, rfl, _, _, hI⟩
  · cases p with
    | none =>
      refine (clone_nil w).mono ?_
      rintro e w' ⟨rfl, rfl⟩
      exact ⟨_, rfl, .inl ⟨_, rfl, rfl⟩, Below.refl _ _⟩
    | some a => exact clone_some a 0 0 [] rfl (by omega) w (fun j u h => by simp [flat] at h)
  · refine clone_some ⟨g, 0, none⟩ _ cap xs rfl hn w (fun j u h => ?_)
    rw [Addr.add_lit, Nat.zero_add, hI.cell, List.getElem?_append_left (List.getElem?_eq_some_iff.1 h).1]
    exact h

theorem deleteGone_off (p : Option Addr) (b : Nat) (w : World) :
    Calls Tryd.prog 16 #[.slice p 0 0, .func (.func 18) #[] #[.pointer (some ⟨b, 0, none⟩)]] w fun e w' => e = .returned (.slice p 0 0) ∧ w' = w := by
  have h1 : Calls Tryd.prog 30 #[.slice p 0 0, .func (.func 18) #[] #[.pointer (some ⟨b, 0, none⟩)]] w fun e w' => e = .returned (.int .i64 (-1)) ∧ w' = w := by
    go_enter Tryd.func30, Tryd.ntmps30
    go_wp2_with fail
    go_loopw [8] (fun i wr => i = .int .i64 0 ∧ wr = w) (fun _ _ => 0)
    case atStart => exact ⟨rfl, rfl⟩
    case round =>
      obtain ⟨rfl, rfl⟩ := hrel
      go_wp2_with fail
      go_ret
      exact ⟨rfl, rfl⟩
  have H1 := Lib.hid h1; clear h1
  go_enter Tryd.func16, Tryd.ntmps16
  go_wp2_with fail
  refine H1.out.mono ?_
  rintro e w' ⟨rfl, rfl⟩
  go_wp2_with fail
  go_ret
  exact ⟨rfl, rfl⟩
theorem gone_op (base b : Nat) (now : Int) (v : Value) (xs : List It) (w : World) (ho : OwnI base w v xs) (hc : w.cell? ⟨b, 0, none⟩ = some (.int .i64 now)) (hb : oB v ≠ some b) (hn : xs.length ≤ 1000000000) :
    Calls Tryd.prog 16 #[v, .func (.func 18) #[] #[.pointer (some ⟨b, 0, none⟩)]] w fun e w' =>
      ∃ v', e = .returned v' ∧ OwnI base w' v' (xs.filter fun x => !goneB now x) ∧ oB v' = oB v ∧ Upd (fun k => oB v = some k) w w' := by
  rcases ho with ⟨p, rfl, rfl⟩ | ⟨g, cap, R, rfl, hbr, hcp, hI⟩
  · refine (deleteGone_off p b w).mono ?_
    rintro e w' ⟨rfl, rfl⟩
    exact ⟨_, rfl, .inl ⟨_, rfl, rfl⟩, rfl, Upd.refl _ _⟩
  · refine (deleteGone b g cap now xs R w hI hc (fun e => hb (by rw [e]; exact oB_pos hcp)) hn).mono ?_
    rintro e w' ⟨rfl, ⟨R', hI'⟩, hU⟩
    refine ⟨_, rfl, .inr ⟨g, cap, R', rfl, hbr, hcp, hI'⟩, by rw [oB_pos hcp, oB_pos hcp], hU.mono fun k _ hk => ?_⟩
    rw [show k = g from hk]; exact oB_pos hcp

theorem search_off (p : Option Addr) (k : List UInt8) (w : World) :
    Calls Tryd.prog 31 #[.slice p 0 0, .string ⟨k.toArray⟩, .func (.func 32) #[] #[]] w fun e w' =>
      e = .returned (.tuple #[.int .i64 0, .bool false]) ∧ w' = w := by
  go_enter Tryd.func31, Tryd.ntmps31
  go_wp2_with fail
  go_loopw [9, 10] (fun i j wr => i = .int .i64 0 ∧ j = .int .i64 0 ∧ wr = w) (fun _ _ _ => 0)
  case atStart => exact ⟨rfl, rfl, rfl⟩
  case round =>
    obtain ⟨rfl, rfl, rfl⟩ := hrel
    go_wp2_with fail
    go_ret2
    exact ⟨rfl, rfl⟩
theorem find_op (base : Nat) (v : Value) (xs : List It) (k : List UInt8) (w : World) (ho : OwnI base w v xs) (hs : Sorted xs) (hn : xs.length ≤ 1000000000) :
    Calls Tryd.prog 19 #[v, .string ⟨k.toArray⟩] w fun e w' => e = .returned (.tuple #[.int .i64 (atF xs k), .bool (isF xs k)]) ∧ Below w.heap.size w w' := by
  have key : Calls Tryd.prog 31 #[v, .string ⟨k.toArray⟩, .func (.func 32) #[] #[]] w fun e w' =>
      e = .returned (.tuple #[.int .i64 (atF xs k), .bool (isF xs k)]) ∧ Below w.heap.size w w' := by
    rcases ho with ⟨p, rfl, rfl⟩ | ⟨g, cap, R, rfl, hbr, hcp, hI⟩
    · refine (search_off p k w).mono ?_
      rintro e w' ⟨rfl, rfl⟩
      exact ⟨rfl, Below.refl _ _⟩
    · exact search g cap k xs R hs w hI hn
  have HK := Lib.hid key
  clear key ho hs hn
  obtain ⟨i, hi⟩ : ∃ i : Nat, i = atF xs k := ⟨_, rfl⟩
  obtain ⟨t, ht⟩ : ∃ t, t = isF xs k := ⟨_, rfl⟩
  rw [← hi, ← ht] at HK ⊢
  clear hi ht
  go_enter Tryd.func19, Tryd.ntmps19
  go_wp2_with fail
  refine HK.out.mono ?_
  rintro e w' ⟨rfl, hb⟩
  go_wp2_with fail
  go_ret2
  exact ⟨rfl, hb⟩
end Go.Proofs.YtfmpdbngpknmaaaDoor
