/- The library's functions on slices of items: IndexFunc and DeleteFunc (of what is gone), BinarySearchFunc (by the key). -/
import Derived.Test.YtfmpdbngpknmaaaDoorBC
import Derived.Maps.AppendAt
import Derived.Shelf.Spec.SlicesInsertGrow
import Derived.StillTailTactics
import Derived.Deep.RegionLaw
import Derived.OwnWalk
namespace Go.Proofs.YtfmpdbngpknmaaaDoor
set_option linter.unusedSimpArgs false
set_option linter.unusedVariables false
open Go.RowKit

theorem info31 : (Tryd.prog.info? 31).map (fun i => (i.zero, i.size, i.bytes)) = some (some (.agg (itA It.zero)), 8, 72) := by kernel_rfl

theorem getElem?_itA (x : It) (j : Nat) : (itA x)[j]? = x.cells[j]? := by simp [itA, It.cells]

/-- an item stored into its place of a row -/
theorem wpList_store_item {ops : Array Oper} {rest : List Oper} {op : Oper} {a : Act} {Q : Exit → Act → World → Prop} (w : World) (hgd : op.guard = none) (x y : Operand) (ho : op.op = .store 31 x y)
    (g i cap : Nat) (xs : List It) (R : List Value) (hI : Items w g cap xs R) (z : It) (hi : i < xs.length) (hx : a.eval x = .pointer (some ⟨g, i * 8, none⟩)) (hy : a.eval y = .agg (itA z))
    (hK : ∀ w', Items w' g cap (xs.set i z) R → Upd (One g) w w' → wpList Tryd.prog ops Q rest (a.put op.dst undef) w') : wpList Tryd.prog ops Q (op :: rest) a w := by
  refine wpList_plain hgd fun K hK' => ?_
  obtain ⟨i0, hi0, hz0, hz1, hz2⟩ := info_parts info31
  have hst := run_storeCells_at Tryd.prog g (i * 8) 31 z.cells 0 _ w hI.heap (by rw [It.cells_len, List.size_toArray, List.length_append, flat_len]; omega) z.cells_one
  simp only [Nat.add_zero] at hst
  have hrun : (storeVar 31 ⟨g, i * 8, none⟩ (.agg (itA z))).run Tryd.prog w = .ok () (w.setRow g (over (flat xs ++ R).toArray (i * 8) z.cells)) := by
    simp [storeVar, sizeOf, typeInfo, hi0, Value.cells, itA_list, hz1, hst, over, show (itA z).size = 8 from rfl]
  unfold Oper.wp execOp
  simp only [ho, hx, hy, Instr.storeAt, Instr.sureAddr, Sem.run_bind, Sem.run_pure, Result.andThen_ok, hrun]
  refine hK' _ _ (hK _ (hI.over (ys := xs.set i z) (R' := R) ?_ (by rw [List.length_set]; exact hI.fit)) ((Upd.refl (One g) w).setRow (g := g) (fun _ => rfl) _))
  have h1 : (flat xs ++ R).take (i * 8) = flat (xs.take i) := by rw [List.take_append_of_le_length (by rw [flat_len]; omega), flat_take]
  have h2 : (flat xs ++ R).drop (i * 8 + z.cells.length) = flat (xs.drop (i + 1)) ++ R := by
    rw [It.cells_len, show i * 8 + 8 = (i + 1) * 8 by omega, List.drop_append, flat_drop, show (i + 1) * 8 - (flat xs).length = 0 by rw [flat_len]; omega, List.drop_zero]
  rw [h1, h2, List.set_eq_take_append_cons_drop, if_pos hi, flat_app, flat_cons]
  simp only [List.append_assoc]

theorem wp_clear_run (w : World) {o : Oper} {a : Act} {K : Act → World → Prop} {Q : Exit → Act → World → Prop} (d : Operand) (t : TypeId)
    (ho : o.op = .call { callee := .builtin .clear, args := #[d], argTypes := #[t] }) (v : Value) (hd : a.eval d = v) {v' : Value} {w' : World}
    (hr : (Builtin.clear_ #[t] o.type #[v]).run Tryd.prog w = .ok v' w') (h : K (a.put o.dst v') w') : o.wp Tryd.prog a w K Q := by
  unfold Oper.wp execOp
  simp only [ho, resolve, invoke, builtin, Sem.run_bind, Sem.run_pure, Result.andThen_ok, List.map_toArray, List.map_cons, List.map_nil, hd, hr]
  exact h
theorem wpList_clear_run (w : World) {ops : Array Oper} {rest : List Oper} {o : Oper} {a : Act} {Q : Exit → Act → World → Prop} (hgd : o.guard = none) (d : Operand) (t : TypeId)
    (ho : o.op = .call { callee := .builtin .clear, args := #[d], argTypes := #[t] }) (v : Value) (hd : a.eval d = v) {v' : Value} {w' : World}
    (hr : (Builtin.clear_ #[t] o.type #[v]).run Tryd.prog w = .ok v' w') (h : wpList Tryd.prog ops Q rest (a.put o.dst v') w') : wpList Tryd.prog ops Q (o :: rest) a w :=
  wpList_plain hgd fun _ hK => wp_clear_run w d t ho v hd hr (hK _ _ h)

/-- the first places of a row struck -/
theorem Items.clear {w : World} {g cap : Nat} {xs : List It} {R : List Value} (h : Items w g cap xs R) (m : Nat) (hm : m ≤ xs.length) :
    ∃ w', (∀ ty c, (Builtin.clear_ #[27] ty #[.slice (some ⟨g, m * 8, none⟩) (xs.length - m) c]).run Tryd.prog w = .ok (.tuple #[]) w') ∧ (∃ R', Items w' g cap (xs.take m) R') ∧ Upd (One g) w w' := by
  obtain ⟨i0, hi0, hz0, hz1, hz2⟩ := info_parts info31
  have hz : ∀ w, (zeroValue 31).run Tryd.prog w = .ok (.agg (itA It.zero)) w := fun w => by kernel_rfl
  have hs : (Value.agg (itA It.zero)).cells.size = 8 := rfl
  have hzl := zeroCells_len (Value.agg (itA It.zero)).cells (xs.length - m)
  rw [hs] at hzl
  have hf := h.fit
  refine ⟨_, fun ty c => run_clear_own w _ ty _ _ Tryd.underlying27 hz (fun v hv => It.zero.cells_one v hv) g (m * 8) _ h.heap (xs.length - m) c (by rw [hs, List.size_toArray, List.length_append, flat_len]; omega), ⟨(Builtin.zeroCells (Value.agg (itA It.zero)).cells (xs.length - m)).toList ++ R, h.over ?_ ?_⟩, (Upd.refl (One g) w).setRow (g := g) (fun _ => rfl) _⟩
  · have h1 : (flat xs ++ R).take (m * 8) = flat (xs.take m) := by rw [List.take_append_of_le_length (by rw [flat_len]; omega), flat_take]
    rw [h1, hzl, show m * 8 + (xs.length - m) * 8 = (flat xs).length by rw [flat_len]; omega, List.drop_left, List.append_assoc]
  · rw [List.length_append, hzl, List.length_take]; omega

/-- how many stand ahead of the first that is gone -/
def aheadF (now : Int) (xs : List It) : Nat := (xs.takeWhile fun x => !goneB now x).length
theorem ahead_le (now : Int) (xs : List It) : aheadF now xs ≤ xs.length := (List.takeWhile_sublist _).length_le

set_option maxHeartbeats 1000000 in
theorem indexGone (b g cap : Nat) (now : Int) (xs : List It) (R : List Value) (w : World) (hI : Items w g cap xs R) (hc : w.cell? ⟨b, 0, none⟩ = some (.int .i64 now)) (hn : xs.length ≤ 1000000000) :
    Calls Tryd.prog 30 #[.slice (some ⟨g, 0, none⟩) xs.length cap, .func (.func 18) #[] #[.pointer (some ⟨b, 0, none⟩)]] w fun e w' =>
      ((e = .returned (.int .i64 (-1)) ∧ ∀ x ∈ xs, goneB now x = false) ∨ (∃ m : Nat, e = .returned (.int .i64 m) ∧ m < xs.length ∧ (∃ x, xs[m]? = some x ∧ goneB now x = true) ∧ ∀ j x, j < m → xs[j]? = some x → goneB now x = false)) ∧ Below w.heap.size w w' := by
  have hlt := block_lt_of_cell (w := w) (a := ⟨b, 0, none⟩) (v := .int .i64 now) (by rw [hc])
  have hg := hI.lt
  obtain ⟨n, hnn⟩ : ∃ n, n = xs.length := ⟨_, rfl⟩
  rw [← hnn] at hn ⊢
  have HN := Lib.hid hnn; clear hnn
  have HC := Lib.hid hc; clear hc
  go_enter Tryd.func30, Tryd.ntmps30
  go_wp2_with fail
  go_loopw [8] (fun i wr => ∃ k : Nat, k ≤ n ∧ i = .int .i64 k ∧ Below w.heap.size w wr ∧ ∀ j x, j < k → xs[j]? = some x → goneB now x = false) (fun i _ => n - (intOf i).toNat)
  case atStart => exact ⟨0, by omega, rfl, Below.refl _ _, fun j x hj => absurd hj (by omega)⟩
  case round =>
    obtain ⟨k, hk, rfl, hb, hpre⟩ := hrel
    have HP := Lib.hid hpre; clear hpre
    by_cases hlt' : k < n
    · obtain ⟨x, hx⟩ : ∃ x, xs[k]? = some x := ⟨xs[k]'(by rw [← HN.out]; exact hlt'), List.getElem?_eq_getElem _⟩
      have hIr := hI.below hb
      have e0 : wr.cell? ⟨g, k * 8, none⟩ = some (.string ⟨x.key.toArray⟩) := hIr.at hx 0 (by omega)
      have e1 : wr.cell? ⟨g, k * 8 + 1, none⟩ = some (.int .u32 x.flags) := hIr.at hx 1 (by omega)
      have e2 : wr.cell? ⟨g, k * 8 + 2, none⟩ = some (.string ⟨x.val.toArray⟩) := hIr.at hx 2 (by omega)
      have e3 : wr.cell? ⟨g, k * 8 + 3, none⟩ = some (.int .i64 x.exp) := hIr.at hx 3 (by omega)
      have e4 : wr.cell? ⟨g, k * 8 + 4, none⟩ = some (.int .u64 x.cas) := hIr.at hx 4 (by omega)
      have e5 : wr.cell? ⟨g, k * 8 + 5, none⟩ = some (.int .i64 x.last) := hIr.at hx 5 (by omega)
      have e6 : wr.cell? ⟨g, k * 8 + 6, none⟩ = some (.bool x.stale) := hIr.at hx 6 (by omega)
      have e7 : wr.cell? ⟨g, k * 8 + 7, none⟩ = some (.bool x.won) := hIr.at hx 7 (by omega)
      have HX := Lib.hid hx; clear hx
      have h1 : (k : Int) < (n : Int) := by omega
      have h0 : (0 : Int) ≤ (k : Int) := by omega
      go_wp2_with fail
      refine (gone b now x wr ((hb.cell (p := ⟨b, 0, none⟩) hlt).trans HC.out)).mono ?_
      rintro e w1 ⟨rfl, hb1⟩
      have hbb := hb.trans (hb1.mono hb.size)
      by_cases hgx : goneB now x = true
      · rw [hgx]
        have HGX := Lib.hid hgx; clear hgx
        go_wp2_with fail
        go_ret
        exact ⟨.inr ⟨k, rfl, hlt', ⟨x, HX.out, HGX.out⟩, HP.out⟩, hbb⟩
      · rw [show goneB now x = false by simpa using hgx]
        have HGX := Lib.hid hgx; clear hgx
        go_wp2_with fail
        go_roundw
        case rel =>
          refine ⟨k + 1, by omega, by go_num, hbb, fun j y hj hy => ?_⟩
          rcases Nat.lt_or_ge j k with h | h
          · exact HP.out j y h hy
          · obtain rfl : j = k := by omega
            rw [HX.out] at hy; cases hy; simpa using HGX.out
        case measure => simp [intOf]; omega
    · obtain rfl : k = n := by omega
      go_wp2_with fail
      go_ret
      refine ⟨.inl ⟨rfl, fun x hx => ?_⟩, hb⟩
      obtain ⟨j, hj⟩ := List.mem_iff_getElem?.1 hx
      exact HP.out j x (by rw [HN.out]; exact (List.getElem?_eq_some_iff.1 hj).1) hj
end Go.Proofs.YtfmpdbngpknmaaaDoor
/- DeleteFunc of what is gone, and BinarySearchFunc by the key, at items. -/
namespace Go.Proofs.YtfmpdbngpknmaaaDoor
set_option linter.unusedSimpArgs false
set_option linter.unusedVariables false
open Go.RowKit

theorem filter_none {now : Int} {xs : List It} (h : ∀ x ∈ xs, goneB now x = false) : xs.filter (fun x => !goneB now x) = xs :=
  List.filter_eq_self.2 fun x hx => by rw [h x hx]; rfl
theorem filter_snoc (now : Int) (xs : List It) (k : Nat) (x : It) (h : xs[k]? = some x) :
    (xs.take (k + 1)).filter (fun x => !goneB now x) = (xs.take k).filter (fun x => !goneB now x) ++ (if goneB now x then [] else [x]) := by
  rw [List.take_add_one, h, List.filter_append]
  cases hg : goneB now x <;> simp [hg]

theorem deleteGone_nil (b : Nat) (w : World) :
    Calls Tryd.prog 16 #[.slice none 0 0, .func (.func 18) #[] #[.pointer (some ⟨b, 0, none⟩)]] w fun e w' => e = .returned (.slice none 0 0) ∧ w' = w := by
  have h1 : Calls Tryd.prog 30 #[.slice none 0 0, .func (.func 18) #[] #[.pointer (some ⟨b, 0, none⟩)]] w fun e w' => e = .returned (.int .i64 (-1)) ∧ w' = w := by
    go_enter Tryd.func30, Tryd.ntmps30
    go_wp2_with fail
    go_loopw [8] (fun i wr => i = .int .i64 0 ∧ wr = w) (fun _ _ => 0)
    case atStart => exact ⟨rfl, rfl⟩
    case round =>
      obtain ⟨rfl, rfl⟩ := hrel
      go_wp2_with fail
      go_ret
      exact ⟨rfl, rfl⟩
  have H1 := Lib.hid h1; clear h1
  go_enter Tryd.func16, Tryd.ntmps16
  go_wp2_with fail
  refine H1.out.mono ?_
  rintro e w' ⟨rfl, rfl⟩
  go_wp2_with fail
  go_ret
  exact ⟨rfl, rfl⟩

set_option maxRecDepth 100000 in
set_option maxHeartbeats 2000000 in
theorem deleteGone (b g cap : Nat) (now : Int) (xs : List It) (R : List Value) (w : World) (hI : Items w g cap xs R) (hc : w.cell? ⟨b, 0, none⟩ = some (.int .i64 now)) (hbg : b ≠ g) (hn : xs.length ≤ 1000000000) :
    Calls Tryd.prog 16 #[.slice (some ⟨g, 0, none⟩) xs.length cap, .func (.func 18) #[] #[.pointer (some ⟨b, 0, none⟩)]] w fun e w' =>
      e = .returned (.slice (some ⟨g, 0, none⟩) (xs.filter fun x => !goneB now x).length cap) ∧ (∃ R', Items w' g cap (xs.filter fun x => !goneB now x) R') ∧ Upd (One g) w w' := by
  have hlt := block_lt_of_cell (w := w) (a := ⟨b, 0, none⟩) (v := .int .i64 now) (by rw [hc])
  have hg := hI.lt
  have hle := hI.le
  have hbig := hI.big
  unfold maxLen at hbig
  have I0 := Lib.hid (indexGone b g cap now xs R w hI hc hn)
  obtain ⟨n, hnn⟩ : ∃ n, n = xs.length := ⟨_, rfl⟩
  rw [← hnn] at hn I0 hle ⊢
  have HN := Lib.hid hnn; clear hnn
  have HC := Lib.hid hc; clear hc
  go_enter Tryd.func16, Tryd.ntmps16
  go_wp2_with fail
  refine I0.out.mono ?_
  rintro e w1 ⟨⟨rfl, hall⟩ | ⟨m0, rfl, hm0, hat, hpre⟩, hb1⟩
  · have HA := Lib.hid hall; clear hall
    go_wp2_with fail
    go_ret
    rw [filter_none HA.out]
    refine ⟨?_, ⟨R, hI.below hb1⟩, (Upd.refl (One g) w).below hb1⟩
    show Ending.returned (Value.slice (some ⟨g, 0, none⟩) n cap) = _
    rw [HN.out]
  · have HAT := Lib.hid hat; have HPRE := Lib.hid hpre; clear hat hpre
    have hI1 := hI.below hb1
    have hu1 : Upd (One g) w w1 := (Upd.refl (One g) w).below hb1
    have hm2 : ((m0 : Int) == -1) = false := by simp
    go_wp2_with fail
    go_loopw [5, 6] (fun i j wr => ∃ (m k : Nat) (ys : List It), m < k ∧ k ≤ n ∧ i = .int .i64 m ∧ j = .int .i64 k ∧ ys.length = n ∧ ys.take m = (xs.take k).filter (fun x => !goneB now x) ∧ ys.drop k = xs.drop k ∧ Items wr g cap ys R ∧ Upd (One g) w wr) (fun _ j _ => n - (intOf j).toNat)
    case atStart =>
      refine ⟨m0, m0 + 1, xs, by omega, by omega, rfl, by go_num, HN.out.symm, ?_, rfl, hI1, hu1⟩
      obtain ⟨x, hx, hgx⟩ := HAT.out
      rw [filter_snoc now xs m0 x hx, hgx, if_pos rfl, List.append_nil]
      refine (filter_none fun y hy => ?_).symm
      obtain ⟨j, hj⟩ := List.mem_iff_getElem?.1 hy
      have hjm : j < m0 := by have := (List.getElem?_eq_some_iff.1 hj).1; rw [List.length_take] at this; omega
      rw [List.getElem?_take_of_lt hjm] at hj
      exact HPRE.out j y hjm hj
    case round =>
      obtain ⟨m, k, ys, hmk, hk, rfl, rfl, hyl, hyt, hyd, hIr, hu⟩ := hrel
      have HYL := Lib.hid hyl; have HYT := Lib.hid hyt; have HYD := Lib.hid hyd; clear hyl hyt hyd
      by_cases hlt' : k < n
      · obtain ⟨x, hx⟩ : ∃ x, xs[k]? = some x := ⟨xs[k]'(by rw [← HN.out]; exact hlt'), List.getElem?_eq_getElem _⟩
        have hyx : ys[k]? = some x := by
          have h1 : (ys.drop k)[0]? = (xs.drop k)[0]? := by rw [HYD.out]
          rw [List.getElem?_drop, List.getElem?_drop, Nat.add_zero] at h1
          rw [h1, hx]
        have e0 : wr.cell? ⟨g, k * 8, none⟩ = some (.string ⟨x.key.toArray⟩) := hIr.at hyx 0 (by omega)
        have e1 : wr.cell? ⟨g, k * 8 + 1, none⟩ = some (.int .u32 x.flags) := hIr.at hyx 1 (by omega)
        have e2 : wr.cell? ⟨g, k * 8 + 2, none⟩ = some (.string ⟨x.val.toArray⟩) := hIr.at hyx 2 (by omega)
        have e3 : wr.cell? ⟨g, k * 8 + 3, none⟩ = some (.int .i64 x.exp) := hIr.at hyx 3 (by omega)
        have e4 : wr.cell? ⟨g, k * 8 + 4, none⟩ = some (.int .u64 x.cas) := hIr.at hyx 4 (by omega)
        have e5 : wr.cell? ⟨g, k * 8 + 5, none⟩ = some (.int .i64 x.last) := hIr.at hyx 5 (by omega)
        have e6 : wr.cell? ⟨g, k * 8 + 6, none⟩ = some (.bool x.stale) := hIr.at hyx 6 (by omega)
        have e7 : wr.cell? ⟨g, k * 8 + 7, none⟩ = some (.bool x.won) := hIr.at hyx 7 (by omega)
        have HX := Lib.hid hx; have HYX := Lib.hid hyx; clear hx hyx
        have h1 : (k : Int) < (n : Int) := by omega
        have h0 : (0 : Int) ≤ (k : Int) := by omega
        have hm0' : (0 : Int) ≤ (m : Int) := by omega
        have hmn : (m : Int) < (n : Int) := by omega
        go_wp2_with fail
        refine (gone b now x _ (Lib.cell?_alloc_some _ ((hu.cell (p := ⟨b, 0, none⟩) hlt hbg).trans HC.out))).mono ?_
        rintro e w2 ⟨rfl, hb2⟩
        have hB := (Blk.new wr 31 (itA x)).below hb2
        have hI2 : Items w2 g cap ys R := (hIr.kept (Below.heap_alloc wr _ g hIr.lt)).below hb2
        have hu2 : Upd (One g) w w2 := (hu.alloc _).below hb2
        clear e0 e1 e2 e3 e4 e5 e6 e7
        by_cases hgx : goneB now x = true
        · rw [hgx]
          have HGX := Lib.hid hgx; clear hgx
          go_wp2_with fail
          go_roundw
          case rel =>
            refine ⟨m, k + 1, ys, by omega, by omega, rfl, by go_num, HYL.out, ?_, ?_, hI2, hu2⟩
            · rw [filter_snoc now xs k x HX.out, HGX.out, if_pos rfl, List.append_nil]; exact HYT.out
            · rw [← List.drop_drop, ← List.drop_drop, HYD.out]
          case measure => simp [intOf]; omega
        · rw [show goneB now x = false by simpa using hgx]
          have HGX := Lib.hid hgx; clear hgx
          have f0 : w2.cell? ⟨wr.heap.size, 0, none⟩ = some (.string ⟨x.key.toArray⟩) := hB.cell 0
          have f1 : w2.cell? ⟨wr.heap.size, 1, none⟩ = some (.int .u32 x.flags) := hB.cell 1
          have f2 : w2.cell? ⟨wr.heap.size, 2, none⟩ = some (.string ⟨x.val.toArray⟩) := hB.cell 2
          have f3 : w2.cell? ⟨wr.heap.size, 3, none⟩ = some (.int .i64 x.exp) := hB.cell 3
          have f4 : w2.cell? ⟨wr.heap.size, 4, none⟩ = some (.int .u64 x.cas) := hB.cell 4
          have f5 : w2.cell? ⟨wr.heap.size, 5, none⟩ = some (.int .i64 x.last) := hB.cell 5
          have f6 : w2.cell? ⟨wr.heap.size, 6, none⟩ = some (.bool x.stale) := hB.cell 6
          have f7 : w2.cell? ⟨wr.heap.size, 7, none⟩ = some (.bool x.won) := hB.cell 7
          clear hB
          go_wp2_with (refine wpList_store_item _ rfl _ _ rfl g m cap ys R hI2 x (by rw [HYL.out]; omega) rfl rfl ?_; intro w3 hI3 hu3)
          go_roundw
          case rel =>
            have hml : m < ys.length := by rw [HYL.out]; omega
            refine ⟨m + 1, k + 1, ys.set m x, by omega, by omega, by go_num, by go_num, by rw [List.length_set]; exact HYL.out, ?_, ?_, hI3, hu2.same hu3⟩
            · rw [filter_snoc now xs k x HX.out, if_neg HGX.out, ← HYT.out, List.take_add_one, List.getElem?_set_self hml, List.take_set_of_le (Nat.le_refl _)]; rfl
            · rw [List.drop_set_of_lt (by omega), ← List.drop_drop, ← List.drop_drop, HYD.out]
          case measure => simp [intOf]; omega
      · obtain rfl : k = n := by omega
        have hmn : (m : Int) < (k : Int) := by omega
        have hmc : ¬ (cap = m) := by omega
        have hmn2 : (m : Int) ≤ (k : Int) := by omega
        have hmcap : (m : Int) ≤ (cap : Int) := by omega
        obtain ⟨w3, hcl, ⟨R', hI3⟩, hu3⟩ := hIr.clear m (by rw [HYL.out]; omega)
        rw [HYL.out] at hcl
        have hfl : (ys.take m).length = m := by rw [List.length_take, HYL.out]; omega
        have HFL := Lib.hid hfl; clear hfl
        go_wp2_with fail
        go_ret
        have hxk : xs.take k = xs := List.take_of_length_le (by rw [HN.out]; exact Nat.le_refl _)
        rw [← hxk, ← HYT.out]
        refine ⟨?_, ⟨R', hI3⟩, hu.same hu3⟩
        show Ending.returned (Value.slice (some ⟨g, 0, none⟩) m cap) = _
        rw [HFL.out]

set_option maxRecDepth 100000 in
set_option maxHeartbeats 2000000 in
/-- BinarySearchFunc by the key, at rising keys -/
theorem search (g cap : Nat) (k : List UInt8) (xs : List It) (R : List Value) (hs : Sorted xs) (w : World) (hI : Items w g cap xs R) (hn : xs.length ≤ 1000000000) :
    Calls Tryd.prog 31 #[.slice (some ⟨g, 0, none⟩) xs.length cap, .string ⟨k.toArray⟩, .func (.func 32) #[] #[]] w fun e w' =>
      e = .returned (.tuple #[.int .i64 (atF xs k), .bool (isF xs k)]) ∧ Below w.heap.size w w' := by
  obtain ⟨n, hnn⟩ : ∃ n, n = xs.length := ⟨_, rfl⟩
  rw [← hnn] at hn ⊢
  have HN := Lib.hid hnn; clear hnn
  have HS := Lib.hid hs; clear hs
  go_enter Tryd.func31, Tryd.ntmps31
  go_wp2_with fail
  go_loopw [9, 10] (fun i j wr => ∃ (a b : Nat), a ≤ b ∧ b ≤ n ∧ i = .int .i64 a ∧ j = .int .i64 b ∧ (∀ q x, q < a → xs[q]? = some x → Op.bytesLess x.key k = true) ∧ (∀ q x, b ≤ q → xs[q]? = some x → Op.bytesLess x.key k = false) ∧ Below w.heap.size w wr) (fun i j _ => (intOf j).toNat - (intOf i).toNat)
  case atStart => exact ⟨0, n, by omega, by omega, rfl, rfl, fun q x hq => absurd hq (by omega), fun q x hq hx => by have := (List.getElem?_eq_some_iff.1 hx).1; rw [← HN.out] at this; omega, Below.refl _ _⟩
  case round =>
    obtain ⟨a, b, hab, hbn, rfl, rfl, hlo, hhi, hb⟩ := hrel
    have HLO := Lib.hid hlo; have HHI := Lib.hid hhi; clear hlo hhi
    by_cases hlt : a < b
    · obtain ⟨x, hx⟩ : ∃ x, xs[(a + b) / 2]? = some x := ⟨xs[(a + b) / 2]'(by rw [← HN.out]; omega), List.getElem?_eq_getElem _⟩
      have hIr := hI.below hb
      have e0 : wr.cell? ⟨g, (a + b) / 2 * 8, none⟩ = some (.string ⟨x.key.toArray⟩) := hIr.at hx 0 (by omega)
      have e1 : wr.cell? ⟨g, (a + b) / 2 * 8 + 1, none⟩ = some (.int .u32 x.flags) := hIr.at hx 1 (by omega)
      have e2 : wr.cell? ⟨g, (a + b) / 2 * 8 + 2, none⟩ = some (.string ⟨x.val.toArray⟩) := hIr.at hx 2 (by omega)
      have e3 : wr.cell? ⟨g, (a + b) / 2 * 8 + 3, none⟩ = some (.int .i64 x.exp) := hIr.at hx 3 (by omega)
      have e4 : wr.cell? ⟨g, (a + b) / 2 * 8 + 4, none⟩ = some (.int .u64 x.cas) := hIr.at hx 4 (by omega)
      have e5 : wr.cell? ⟨g, (a + b) / 2 * 8 + 5, none⟩ = some (.int .i64 x.last) := hIr.at hx 5 (by omega)
      have e6 : wr.cell? ⟨g, (a + b) / 2 * 8 + 6, none⟩ = some (.bool x.stale) := hIr.at hx 6 (by omega)
      have e7 : wr.cell? ⟨g, (a + b) / 2 * 8 + 7, none⟩ = some (.bool x.won) := hIr.at hx 7 (by omega)
      have HX := Lib.hid hx; clear hx
      have g1 : (a : Int) < (b : Int) := by omega
      go_wp2_with fail
      refine (cmp1 k x wr).mono ?_
      rintro e w1 ⟨rfl, hb1⟩
      have hbb := hb.trans (hb1.mono hb.size)
      clear e0 e1 e2 e3 e4 e5 e6 e7
      have hcl := cmp_lt x.key k
      obtain ⟨c, hc⟩ : ∃ c, c = Lib.compareBytes x.key k := ⟨_, rfl⟩
      rw [← hc] at hcl ⊢
      clear hc
      by_cases hlx : Op.bytesLess x.key k = true
      · have hc0 : c < 0 := hcl.2 hlx
        have HLX := Lib.hid hlx; clear hcl hlx
        go_wp2_with fail
        go_roundw
        case rel =>
          refine ⟨(a + b) / 2 + 1, b, by omega, hbn, by go_num, rfl, fun q y hq hy => ?_, HHI.out, hbb⟩
          rcases Nat.lt_or_ge q ((a + b) / 2) with hq1 | hq1
          · exact less_trans (HS.out.get hy HX.out hq1) HLX.out
          · obtain rfl : q = (a + b) / 2 := by omega
            rw [HX.out] at hy; cases hy; exact HLX.out
        case measure => simp [intOf]; omega
      · have hc0 : ¬ c < 0 := fun h => hlx (hcl.1 h)
        have HLX := Lib.hid hlx; clear hcl hlx
        go_wp2_with fail
        go_roundw
        case rel =>
          refine ⟨a, (a + b) / 2, by omega, by omega, rfl, by go_num, HLO.out, fun q y hq hy => ?_, hbb⟩
          rcases Nat.lt_or_ge ((a + b) / 2) q with hq1 | hq1
          · refine Bool.eq_false_iff.2 fun h => HLX.out (less_trans (HS.out.get HX.out hy hq1) h)
          · obtain rfl : q = (a + b) / 2 := by omega
            rw [HX.out] at hy; cases hy; exact Bool.eq_false_iff.2 HLX.out
        case measure => simp [intOf]; omega
    · obtain rfl : a = b := by omega
      have hat : atF xs k = a := atF_of_part (by rw [← HN.out]; exact hbn) HLO.out (fun x hx => HHI.out a x (Nat.le_refl _) hx)
      have HAT := Lib.hid hat; clear hat
      have hg0 : ¬ (a : Int) < (a : Int) := by omega
      by_cases hlt2 : a < n
      · obtain ⟨x, hx⟩ : ∃ x, xs[a]? = some x := ⟨xs[a]'(by rw [← HN.out]; omega), List.getElem?_eq_getElem _⟩
        have hIr := hI.below hb
        have e0 : wr.cell? ⟨g, a * 8, none⟩ = some (.string ⟨x.key.toArray⟩) := hIr.at hx 0 (by omega)
        have e1 : wr.cell? ⟨g, a * 8 + 1, none⟩ = some (.int .u32 x.flags) := hIr.at hx 1 (by omega)
        have e2 : wr.cell? ⟨g, a * 8 + 2, none⟩ = some (.string ⟨x.val.toArray⟩) := hIr.at hx 2 (by omega)
        have e3 : wr.cell? ⟨g, a * 8 + 3, none⟩ = some (.int .i64 x.exp) := hIr.at hx 3 (by omega)
        have e4 : wr.cell? ⟨g, a * 8 + 4, none⟩ = some (.int .u64 x.cas) := hIr.at hx 4 (by omega)
        have e5 : wr.cell? ⟨g, a * 8 + 5, none⟩ = some (.int .i64 x.last) := hIr.at hx 5 (by omega)
        have e6 : wr.cell? ⟨g, a * 8 + 6, none⟩ = some (.bool x.stale) := hIr.at hx 6 (by omega)
        have e7 : wr.cell? ⟨g, a * 8 + 7, none⟩ = some (.bool x.won) := hIr.at hx 7 (by omega)
        have hfin : isF xs k = decide (x.key = k) := by
          unfold isF; rw [HAT.out, hx]
          show (x.key == k) = _
          by_cases h : x.key = k <;> simp [h]
        have HX := Lib.hid hx; have HF := Lib.hid hfin; clear hx hfin
        have g1 : (a : Int) < (n : Int) := by omega
        have g2 : (0 : Int) ≤ (a : Int) := by omega
        go_wp2_with fail
        refine (cmp1 k x wr).mono ?_
        rintro e w1 ⟨rfl, hb1⟩
        have hbb := hb.trans (hb1.mono hb.size)
        clear e0 e1 e2 e3 e4 e5 e6 e7
        have hce := cmp_eq x.key k
        obtain ⟨c, hc⟩ : ∃ c, c = Lib.compareBytes x.key k := ⟨_, rfl⟩
        rw [← hc] at hce ⊢
        clear hc
        by_cases hc0 : c = 0
        · have hkk : decide (x.key = k) = true := decide_eq_true (hce.1 hc0)
          have HK := Lib.hid hkk; clear hkk hce
          subst hc0
          go_wp2_with fail
          go_ret2
          rw [HF.out, HAT.out, HK.out]
          exact ⟨rfl, hbb⟩
        · have hkk : decide (x.key = k) = false := decide_eq_false fun h => hc0 (hce.2 h)
          have HK := Lib.hid hkk
          have hc1 : (c == 0) = false := by simpa using hc0
          clear hkk hce hc0
          go_wp2_with fail
          go_ret2
          rw [HF.out, HAT.out, HK.out]
          exact ⟨rfl, hbb⟩
      · have hfin : isF xs k = false := by
          unfold isF; rw [HAT.out, List.getElem?_eq_none (by rw [← HN.out]; omega)]
        have HF := Lib.hid hfin; clear hfin
        have g1 : ¬ (a : Int) < (n : Int) := by omega
        go_wp2_with fail
        go_ret2
        rw [HF.out, HAT.out]
        exact ⟨rfl, hb⟩
end Go.Proofs.YtfmpdbngpknmaaaDoor
/- slices.Insert of one item, and slices.Delete of one, at items. -/
namespace Go.Proofs.YtfmpdbngpknmaaaDoor
set_option linter.unusedSimpArgs false
set_option linter.unusedVariables false
open Go.RowKit

theorem shape_of {w : World} {g : Nat} {t : TypeId} {cs : Array Value} {fr : Nat × Nat} (h : w.heap[g]? = some (.cells cs t fr)) : w.shape? g = some (t, cs.size) := by simp [World.shape?, h]

/-- an item laid at a place of a row -/
theorem Items.put {w : World} {g cap : Nat} {xs : List It} {R : List Value} (h : Items w g cap xs R) (i : Nat) (hi : i < xs.length) (z : It) :
    Items (w.setRow g (Go.Proofs.YtfmpdbngpknmaaaDoor.over (flat xs ++ R).toArray (i * 8) z.cells)) g cap (xs.set i z) R := by
  refine h.over ?_ (by rw [List.length_set]; exact h.fit)
  have h1 : (flat xs ++ R).take (i * 8) = flat (xs.take i) := by rw [List.take_append_of_le_length (by rw [flat_len]; omega), flat_take]
  have h2 : (flat xs ++ R).drop (i * 8 + z.cells.length) = flat (xs.drop (i + 1)) ++ R := by
    rw [It.cells_len, show i * 8 + 8 = (i + 1) * 8 by omega, List.drop_append, flat_drop, show (i + 1) * 8 - (flat xs).length = 0 by rw [flat_len]; omega, List.drop_zero]
  rw [h1, h2, List.set_eq_take_append_cons_drop, if_pos hi, flat_app, flat_cons]
  simp only [List.append_assoc]
/-- items laid behind a row's -/
theorem Items.lay {w : World} {g cap : Nat} {xs : List It} {R : List Value} (h : Items w g cap xs R) (ys : List It) (hc : xs.length + ys.length ≤ cap) :
    Items (w.setRow g (Go.Proofs.YtfmpdbngpknmaaaDoor.over (flat xs ++ R).toArray (xs.length * 8) (flat ys))) g cap (xs ++ ys) (R.drop (ys.length * 8)) := by
  have hf := h.fit
  refine h.over ?_ (by rw [List.length_append, List.length_drop]; omega)
  rw [← flat_len xs, List.take_left, flat_len ys, List.drop_append, List.drop_of_length_le (l := flat xs) (by omega), List.nil_append, Nat.add_sub_cancel_left, flat_app]
/-- what stands from a place on, one place further on -/
theorem Items.shift {w : World} {g cap : Nat} {xs : List It} {R : List Value} (h : Items w g cap xs R) (i : Nat) (hi : i < xs.length) (hc : xs.length + 1 ≤ cap) :
    Items (w.setRow g (Go.Proofs.YtfmpdbngpknmaaaDoor.over (flat xs ++ R).toArray ((i + 1) * 8) (flat (xs.drop i)))) g cap (xs.take (i + 1) ++ xs.drop i) (R.drop 8) := by
  have hf := h.fit
  refine h.over ?_ (by rw [List.length_append, List.length_take, List.length_drop, List.length_drop]; omega)
  have h1 : (flat xs ++ R).take ((i + 1) * 8) = flat (xs.take (i + 1)) := by rw [List.take_append_of_le_length (by rw [flat_len]; omega), flat_take]
  rw [h1, flat_len, List.length_drop, show (i + 1) * 8 + (xs.length - i) * 8 = (flat xs).length + 8 by rw [flat_len]; omega, List.drop_append, List.drop_of_length_le (l := flat xs) (by omega), List.nil_append, Nat.add_sub_cancel_left, flat_app]
theorem set_shift (xs : List It) (i : Nat) (hi : i < xs.length) (x : It) : (xs.take (i + 1) ++ xs.drop i).set i x = xs.take i ++ x :: xs.drop i := by
  rw [List.set_eq_take_append_cons_drop, if_pos (by rw [List.length_append, List.length_take]; omega)]
  congr 1
  · rw [List.take_append_of_le_length (by rw [List.length_take]; omega), List.take_take, Nat.min_eq_left (by omega)]
  · congr 1
    have h1 : (xs.take (i + 1)).length = i + 1 := by rw [List.length_take]; omega
    exact List.drop_left' h1

theorem upd_of_grown {w w' : World} {row : Option Nat} (h : w.grownBy w' row) : Upd (fun k => row = some k) w w' :=
  ⟨h.os, h.tape, h.output, h.size, fun k hk hr => h.block k hk (fun e => hr e.symm)⟩

set_option maxRecDepth 100000 in
set_option maxHeartbeats 2000000 in
theorem insert_shift (g cap i vb vc : Nat) (xs : List It) (R : List Value) (x : It) (w : World) (hI : Items w g cap xs R) (hi : i < xs.length) (hc : xs.length + 1 ≤ cap) (hv : Blk w vb 31 (itA x)) (hne : vb ≠ g) (hn : xs.length ≤ 1000000000) :
    Calls Tryd.prog 44 #[.slice (some ⟨g, 0, none⟩) xs.length cap, .int .i64 i, .slice (some ⟨vb, 0, none⟩) 1 vc] w fun e w' =>
      e = .returned (.slice (some ⟨g, 0, none⟩) (xs.length + 1) cap) ∧ (∃ R', Items w' g cap (xs.take i ++ x :: xs.drop i) R') ∧ Upd (One g) w w' := by
  obtain ⟨i0, hi0, hz0, hz1, hz2⟩ := info_parts info31
  have hbig := hI.big
  unfold maxLen at hbig
  have hsz : ∀ w, (Go.sizeOf 31).run Tryd.prog w = .ok 8 w := fun w => by simp [Go.sizeOf, typeInfo, hi0, hz1]
  have hov : ∀ lb cb, (callFunc 50 #[.slice (some ⟨vb, 0, none⟩) 1 vc, .slice (some ⟨g, (i + 1) * 8, none⟩) lb cb]).run Tryd.prog w = .ok (.value (.bool false)) w := fun lb cb => by
    rw [run_callFunc_extern Tryd.func50 (by kernel_rfl) (by kernel_rfl) (by kernel_rfl) (e := Extern.SlicesOverlaps.overlaps #[27, 27] #[4]) (by kernel_rfl),
      Lib.run_overlaps_apart w 27 4 31 Tryd.underlying27 8 hsz ⟨vb, 0, none⟩ ⟨g, (i + 1) * 8, none⟩ 1 vc lb cb hne _ _ _ _ (shape_of hv) (shape_of hI.heap) (by rw [List.size_toArray, List.length_append, flat_len]; omega) (hv.frozen 0) (hv.frozen _)]
    rfl
  have hfit := hI.fit
  have hId : Items w.drew g cap xs R := hI.kept rfl
  have hcp1 : ∀ ty dc sc, (Builtin.copy_ #[27, 27] ty #[.slice (some ⟨g, (i + 1) * 8, none⟩) (xs.length - i) dc, .slice (some ⟨g, i * 8, none⟩) (xs.length + 1 - i) sc]).run Tryd.prog w.drew = .ok (goInt ((xs.length - i : Nat) : Int)) (w.drew.setRow g (over (flat xs ++ R).toArray ((i + 1) * 8) (flat (xs.drop i)))) := fun ty dc sc =>
    run_copy_own w.drew _ _ ty _ i0 8 Tryd.underlying27 hi0 hz1 g ((i + 1) * 8) _ hId.heap (xs.length - i) dc ⟨g, i * 8, none⟩ (xs.length + 1 - i) sc (xs.length - i) (by simp only [Nat.min_def]; split <;> omega) (flat (xs.drop i)) (by rw [flat_len, List.length_drop])
      (fun j v hj => by
        rw [Addr.add_lit, hId.cell, List.getElem?_append_left (by have := (List.getElem?_eq_some_iff.1 hj).1; rw [flat_len, List.length_drop] at this; rw [flat_len]; omega)]
        rw [← flat_drop, List.getElem?_drop] at hj; exact hj)
      (by rw [flat_len, List.length_drop, List.size_toArray, List.length_append, flat_len]; omega) (flat_one _)
  have hI1 := hId.shift i hi hc
  obtain ⟨W1, hW1⟩ : ∃ W1, W1 = w.drew.setRow g (over (flat xs ++ R).toArray ((i + 1) * 8) (flat (xs.drop i))) := ⟨_, rfl⟩
  rw [← hW1] at hcp1 hI1
  have hu1 : Upd (One g) w W1 := by rw [hW1]; exact ((Upd.refl (One g) w).drew).setRow (g := g) (fun _ => rfl) _
  have hv1 : Blk W1 vb 31 (itA x) := hv.upd hu1 hne
  have hl1 : (xs.take (i + 1) ++ xs.drop i).length = xs.length + 1 := by rw [List.length_append, List.length_take, List.length_drop]; omega
  have hcp2 : ∀ ty dc, (Builtin.copy_ #[27, 27] ty #[.slice (some ⟨g, i * 8, none⟩) (xs.length + 1 - i) dc, .slice (some ⟨vb, 0, none⟩) 1 vc]).run Tryd.prog W1 = .ok (goInt ((1 : Nat) : Int)) (W1.setRow g (over (flat (xs.take (i + 1) ++ xs.drop i) ++ R.drop 8).toArray (i * 8) x.cells)) := fun ty dc =>
    run_copy_own W1 _ _ ty _ i0 8 Tryd.underlying27 hi0 hz1 g (i * 8) _ hI1.heap (xs.length + 1 - i) dc ⟨vb, 0, none⟩ 1 vc 1 (by simp only [Nat.min_def]; split <;> omega) x.cells rfl
      (fun j v hj => by rw [Addr.add_lit, Nat.zero_add, hv1.cell, getElem?_itA]; exact hj)
      (by rw [It.cells_len, List.size_toArray, List.length_append, flat_len, hl1, List.length_drop]; omega) x.cells_one
  have hI2 := hI1.put i (by rw [hl1]; omega) x
  rw [set_shift xs i hi] at hI2
  obtain ⟨W2, hW2⟩ : ∃ W2, W2 = W1.setRow g (over (flat (xs.take (i + 1) ++ xs.drop i) ++ R.drop 8).toArray (i * 8) x.cells) := ⟨_, rfl⟩
  rw [← hW2] at hcp2 hI2
  have hu2 : Upd (One g) w W2 := by rw [hW2]; exact hu1.setRow (g := g) (fun _ => rfl) _
  obtain ⟨n, hnn⟩ : ∃ n, n = xs.length := ⟨_, rfl⟩
  rw [← hnn] at hn hi hc hcp1 hcp2 hfit ⊢
  have HI2 := Lib.hid hI2; have HU2 := Lib.hid hu2
  clear hnn hW1 hW2 hI2 hu2 hI1 hId hu1 hv1 hl1 hsz hi0 hz0 hz1 hz2 hfit
  have hb1 : (0 : Int) ≤ (i : Int) := by omega
  have hb2 : (i : Int) < (n : Int) := by omega
  have hb3 : (n : Int) + 1 ≤ (cap : Int) := by omega
  have hb4 : ¬ ((i : Int) = (n : Int)) := by omega
  have hb5 : ((i : Int) == (n : Int)) = false := by simp; omega
  have hb6 : ¬ (cap = i + 1) := by omega
  have hb7 : ¬ (cap = i) := by omega
  have hb8 : ((i : Int) + 1).toNat = i + 1 := by omega
  have hb9 : (0 : Int) ≤ (i : Int) + 1 := by omega
  have hb10 : (i : Int) ≤ (n : Int) := by omega
  have hb11 : (i : Int) ≤ (n : Int) + 1 := by omega
  have hb12 : IntKind.i64.wrap ((i : Int) + 1) = (i : Int) + 1 := by rw [IntKind.wrap_i64]; omega
  go_enter Tryd.func44, Tryd.ntmps44
  go_wp2_with (simp only [hov])
  go_region_law (refine step_copy_runI rfl _ _ 27 27 rfl _ _ (by simp [Act.eval, Act.put]) (by simp [Act.eval, Act.put]) (hcp1 _ _ _) ?_)
  go_wp2_with fail
  go_ret
  exact ⟨rfl, ⟨_, HI2.out⟩, HU2.out⟩

set_option maxRecDepth 100000 in
set_option maxHeartbeats 4000000 in
theorem insert_grow (g cap i vb vc : Nat) (xs : List It) (R : List Value) (x : It) (w : World) (hI : Items w g cap xs R) (hi : i < xs.length) (hc : cap = xs.length) (hv : Blk w vb 31 (itA x)) (hn : xs.length ≤ 1000000000) :
    Calls Tryd.prog 44 #[.slice (some ⟨g, 0, none⟩) xs.length cap, .int .i64 i, .slice (some ⟨vb, 0, none⟩) 1 vc] w fun e w' =>
      ∃ G R', e = .returned (.slice (some ⟨w.heap.size, 0, none⟩) (xs.length + 1) G) ∧ Items w' w.heap.size G (xs.take i ++ x :: xs.drop i) R' ∧ Upd Non w w' := by
  obtain ⟨i0, hi0, hz0, hz1, hz2⟩ := info_parts info31
  have hId : Items w.drew g cap xs R := hI.kept rfl
  have hgl := hI.lt
  have hvl := hv.lt
  have hold : (Builtin.firstCells i0.size i (.slice (some ⟨g, 0, none⟩) i cap)).run Tryd.prog w.drew = .ok (flat (xs.take i)).toArray w.drew := by
    rw [hz1]
    exact run_firstCells_some (w := w.drew) 8 i ⟨g, 0, none⟩ i cap (flat (xs.take i)) (by rw [flat_len, List.length_take]; omega) (fun j v hj => by
      have hj2 := (List.getElem?_eq_some_iff.1 hj).1
      rw [flat_len, List.length_take] at hj2
      rw [Addr.add_lit, Nat.zero_add, hId.cell, List.getElem?_append_left (by rw [flat_len]; omega)]
      rw [← flat_take, List.getElem?_take_of_lt (by omega)] at hj; exact hj)
  have hik : i + (xs.length + 1 - i) = xs.length + 1 := by omega
  have hrz : ∀ ty, (Builtin.append_ #[27, 3] ty #[.slice (some ⟨g, 0, none⟩) i cap, .int .i64 ((xs.length : Int) + 1 - (i : Int))]).run Tryd.prog w =
      .ok (.slice (some ⟨w.heap.size, 0, none⟩) (xs.length + 1) (grownCap w (xs.length + 1) cap 31)) (w.drew.alloc (.cells ((flat (xs.take i)).toArray ++ Builtin.zeroCells (Value.agg (itA It.zero)).cells (xs.length + 1 - i) ++ Builtin.zeroCells (Value.agg (itA It.zero)).cells (grownCap w (xs.length + 1) cap 31 - (xs.length + 1))) 31)) := fun ty => by
    have h := Lib.run_append_grow_zeros w 27 3 ty 31 i0 _ .i64 .i64 Tryd.underlying27 Tryd.underlying3 hi0 hz0 (some ⟨g, 0, none⟩) i cap (flat (xs.take i)) hold (xs.length + 1 - i) (by omega) (by omega) (by omega) (by omega) (by rw [hz2]; omega) (by rw [hz2, hik]; exact growslice_fits (by omega) (by omega))
    rw [hik] at h
    rw [show (xs.length : Int) + 1 - (i : Int) = ((xs.length + 1 - i : Nat) : Int) by omega]
    exact h
  obtain ⟨G, hG⟩ : ∃ G, G = grownCap w (xs.length + 1) cap 31 := ⟨_, rfl⟩
  have hGn : xs.length + 1 ≤ G := by rw [hG]; exact grownCap_ge w _ _ _
  have hG63 : G ≤ maxLen := by rw [hG]; exact grownCap_le_maxLen w (xs.length + 1) cap 31 (by unfold maxLen; omega)
  rw [← hG] at hrz
  obtain ⟨R1, hR1⟩ : ∃ R1, R1 = (Builtin.zeroCells (Value.agg (itA It.zero)).cells (xs.length + 1 - i)).toList ++ (Builtin.zeroCells (Value.agg (itA It.zero)).cells (G - (xs.length + 1))).toList := ⟨_, rfl⟩
  have hR1l : R1.length = (G - i) * 8 := by
    rw [hR1, List.length_append, zeroCells_len, zeroCells_len, show (Value.agg (itA It.zero)).cells.size = 8 from rfl]; omega
  have hrow : (flat (xs.take i)).toArray ++ Builtin.zeroCells (Value.agg (itA It.zero)).cells (xs.length + 1 - i) ++ Builtin.zeroCells (Value.agg (itA It.zero)).cells (G - (xs.length + 1)) = (flat (xs.take i) ++ R1).toArray := by
    apply Array.toList_inj.1
    rw [hR1]; simp
  rw [hrow] at hrz
  obtain ⟨W1, hW1⟩ : ∃ W1, W1 = w.drew.alloc (.cells (flat (xs.take i) ++ R1).toArray 31) := ⟨_, rfl⟩
  rw [← hW1] at hrz
  have hti : (xs.take i).length = i := by rw [List.length_take]; omega
  have hI1 : Items W1 w.heap.size G (xs.take i) R1 := ⟨by rw [hW1]; exact heap_alloc_new w.drew _, by rw [hti, hR1l]; omega, hG63⟩
  have hu1 : Upd Non w W1 := by rw [hW1]; exact ((Upd.refl Non w).drew).alloc _
  have hv1 : Blk W1 vb 31 (itA x) := hv.upd hu1 (fun h => h)
  have hS1 : Items W1 g cap xs R := hI.kept (hu1.block g hgl (fun h => h))
  have hcpA : ∀ ty dc, (Builtin.copy_ #[27, 27] ty #[.slice (some ⟨w.heap.size, i * 8, none⟩) (xs.length + 1 - i) dc, .slice (some ⟨vb, 0, none⟩) 1 vc]).run Tryd.prog W1 = .ok (goInt ((1 : Nat) : Int)) (W1.setRow w.heap.size (over (flat (xs.take i) ++ R1).toArray (i * 8) x.cells)) := fun ty dc =>
    run_copy_own W1 _ _ ty _ i0 8 Tryd.underlying27 hi0 hz1 w.heap.size (i * 8) _ hI1.heap (xs.length + 1 - i) dc ⟨vb, 0, none⟩ 1 vc 1 (by simp only [Nat.min_def]; split <;> omega) x.cells rfl
      (fun j v hj => by rw [Addr.add_lit, Nat.zero_add, hv1.cell, getElem?_itA]; exact hj)
      (by rw [It.cells_len, List.size_toArray, List.length_append, flat_len, hti, hR1l]; omega) x.cells_one
  have hI2 := hI1.lay [x] (by rw [hti, List.length_singleton]; omega)
  rw [hti, show flat [x] = x.cells by rw [flat_cons, flat_nil, List.append_nil], List.length_singleton] at hI2
  obtain ⟨W2, hW2⟩ : ∃ W2, W2 = W1.setRow w.heap.size (over (flat (xs.take i) ++ R1).toArray (i * 8) x.cells) := ⟨_, rfl⟩
  rw [← hW2] at hcpA hI2
  have hu2 : Upd Non w W2 := by rw [hW2]; exact hu1.setRow (g := w.heap.size) (fun h => absurd h (by omega)) _
  have hS2 : Items W2 g cap xs R := hI.kept (hu2.block g hgl (fun h => h))
  have hS2d : Items W2.drew g cap xs R := hS2.kept rfl
  have hI2d : Items W2.drew w.heap.size G (xs.take i ++ [x]) (R1.drop (1 * 8)) := hI2.kept rfl
  have htl : (xs.take i ++ [x]).length = i + 1 := by rw [List.length_append, hti]; rfl
  have hcpB : ∀ ty dc sc, (Builtin.copy_ #[27, 27] ty #[.slice (some ⟨w.heap.size, (i + 1) * 8, none⟩) (xs.length - i) dc, .slice (some ⟨g, i * 8, none⟩) (xs.length - i) sc]).run Tryd.prog W2.drew = .ok (goInt ((xs.length - i : Nat) : Int)) (W2.drew.setRow w.heap.size (over (flat (xs.take i ++ [x]) ++ R1.drop (1 * 8)).toArray ((i + 1) * 8) (flat (xs.drop i)))) := fun ty dc sc =>
    run_copy_own W2.drew _ _ ty _ i0 8 Tryd.underlying27 hi0 hz1 w.heap.size ((i + 1) * 8) _ hI2d.heap (xs.length - i) dc ⟨g, i * 8, none⟩ (xs.length - i) sc (xs.length - i) (by simp) (flat (xs.drop i)) (by rw [flat_len, List.length_drop])
      (fun j v hj => by
        rw [Addr.add_lit, hS2d.cell, List.getElem?_append_left (by have := (List.getElem?_eq_some_iff.1 hj).1; rw [flat_len, List.length_drop] at this; rw [flat_len]; omega)]
        rw [← flat_drop, List.getElem?_drop] at hj; exact hj)
      (by rw [flat_len, List.length_drop, List.size_toArray, List.length_append, flat_len, htl, List.length_drop, hR1l]; omega) (flat_one _)
  have hI3 := hI2d.lay (xs.drop i) (by rw [htl, List.length_drop]; omega)
  rw [htl, List.append_assoc, List.singleton_append] at hI3
  obtain ⟨W3, hW3⟩ : ∃ W3, W3 = W2.drew.setRow w.heap.size (over (flat (xs.take i ++ [x]) ++ R1.drop (1 * 8)).toArray ((i + 1) * 8) (flat (xs.drop i))) := ⟨_, rfl⟩
  rw [← hW3] at hcpB hI3
  have hu3 : Upd Non w W3 := by rw [hW3]; exact hu2.drew.setRow (g := w.heap.size) (fun h => absurd h (by omega)) _
  obtain ⟨n, hnn⟩ : ∃ n, n = xs.length := ⟨_, rfl⟩
  obtain ⟨B, hB⟩ : ∃ B, B = w.heap.size := ⟨_, rfl⟩
  unfold maxLen at hG63
  rw [← hnn] at hn hi hc hrz hcpA hcpB hGn ⊢
  rw [← hB] at hrz hcpA hcpB hI3 ⊢
  have HI3 := Lib.hid hI3; have HU3 := Lib.hid hu3
  clear hnn hB hW1 hW2 hW3 hI3 hu3 hI2 hI2d hS2 hS2d hu2 hI1 hId hu1 hv1 hti htl hR1 hR1l hrow hi0 hz0 hz1 hz2 hold hik hG
  subst hc
  have hb1 : (0 : Int) ≤ (i : Int) := by omega
  have hb2 : (i : Int) < (cap : Int) := by omega
  have hb4 : ¬ ((i : Int) = (cap : Int)) := by omega
  have hb5 : ((i : Int) == (cap : Int)) = false := by simp; omega
  have hb6 : ¬ (G = i + 1) := by omega
  have hb7 : ¬ (G = i) := by omega
  have hb7b : ¬ (cap = i) := by omega
  have hb3 : (cap : Int) < (cap : Int) + 1 := by omega
  have hb8 : ((i : Int) + 1).toNat = i + 1 := by omega
  have hb9 : (0 : Int) ≤ (i : Int) + 1 := by omega
  have hb10 : (i : Int) ≤ (cap : Int) := by omega
  have hb11 : (i : Int) ≤ (cap : Int) + 1 := by omega
  have hb12 : IntKind.i64.wrap ((i : Int) + 1) = (i : Int) + 1 := by rw [IntKind.wrap_i64]; omega
  go_enter Tryd.func44, Tryd.ntmps44
  go_wp2_with (first
    | (at_builtin; refine Lib.wpList_append_run _ rfl _ _ _ _ rfl _ _ rfl rfl _ _ (hrz _) ?_))
  go_region_law (refine step_copy_runI rfl _ _ 27 27 rfl _ _ (by simp [Act.eval, Act.put]) (by simp [Act.eval, Act.put]) (hcpB _ _ _) ?_)
  go_wp2_with fail
  go_ret
  exact ⟨G, _, rfl, HI3.out, HU3.out⟩

theorem ownsRow_to {w : World} {base : Nat} {e : TypeId} {size : Nat} {v : Value} {n m : Nat} {xs ys : List Value} (h : w.ownsRow base e size v n xs) (hn : n = m) (hx : xs = ys) : w.ownsRow base e size v m ys := by subst hn; subst hx; exact h

set_option maxRecDepth 100000 in
set_option maxHeartbeats 2000000 in
theorem insert_end (base vb vc : Nat) (v : Value) (xs : List It) (x : It) (w : World) (ho : w.ownsRow base 31 8 v xs.length (flat xs)) (hv : Blk w vb 31 (itA x)) (hbase : base ≤ w.heap.size) (hn : xs.length ≤ 1000000000) :
    Calls Tryd.prog 44 #[v, .int .i64 xs.length, .slice (some ⟨vb, 0, none⟩) 1 vc] w fun e w' =>
      ∃ v', e = .returned v' ∧ w'.ownsRow base 31 8 v' (xs ++ [x]).length (flat (xs ++ [x])) ∧ Upd (fun k => v.ownBlock = some k) w w' ∧ (v'.ownBlock = v.ownBlock ∨ ∃ k, v'.ownBlock = some k ∧ w.heap.size ≤ k) := by
  obtain ⟨i0, hi0, hz0, hz1, hz2⟩ := info_parts info31
  have hfl : flat (xs ++ [x]) = flat xs ++ x.cells := by rw [flat_app, flat_cons, flat_nil, List.append_nil]
  have hnl : (xs ++ [x]).length = xs.length + 1 := by rw [List.length_append]; rfl
  rw [hfl, hnl]
  have hnews : ∀ j u, x.cells[j]? = some u → w.cell? ((⟨vb, 0, none⟩ : Addr).add j) = some u := fun j u hj => by rw [Addr.add_lit, Nat.zero_add, hv.cell, getElem?_itA]; exact hj
  have hone := x.cells_one
  have hcl := x.cells_len
  obtain ⟨C, hC⟩ : ∃ C, C = x.cells := ⟨_, rfl⟩
  rw [← hC] at hnews hone hcl ⊢
  clear hC hfl hnl
  have hform : (v = .slice none 0 0 ∧ xs.length = 0) ∨ ∃ g cap, v = .slice (some ⟨g, 0, none⟩) xs.length cap ∧ xs.length ≤ cap ∧ cap ≤ maxLen := by
    rcases ho.2 with ⟨h1, h2⟩ | ⟨g, cap, cur, h1, _, _, h2, h3, _⟩
    · exact .inl ⟨h1, h2⟩
    · exact .inr ⟨g, cap, h1, h2, h3⟩
  obtain ⟨n, hnn⟩ : ∃ n, n = xs.length := ⟨_, rfl⟩
  rw [← hnn] at hn ho hform ⊢
  have HN := Lib.hid hnn; have HO := Lib.hid ho; have HNEWS := Lib.hid hnews; have HONE := Lib.hid hone; have HCL := Lib.hid hcl
  clear hnn ho hnews hone hcl
  rcases hform with ⟨rfl, h0⟩ | ⟨g, cap, rfl, hle, hbig⟩
  · subst h0
    go_enter Tryd.func44, Tryd.ntmps44
    go_wp2_with (at_builtin; refine wpList_append_own_at _ rfl _ _ 27 rfl base 31 i0 _ 8 72 Tryd.underlying27 hi0 hz0 hz1 hz2 rfl (by decide) _ 0 (flat xs) rfl HO.out ⟨vb, 0, none⟩ 1 vc C rfl HCL.out HNEWS.out HONE.out (by unfold maxLen; omega) (by omega) hbase ?_; intro v' w1 hown' hgrow _ hat)
    go_ret
    exact ⟨v', rfl, hown', upd_of_grown hgrow, hat.imp id (fun h => ⟨_, h, Nat.le_refl _⟩)⟩
  · unfold maxLen at hbig
    have hb0 : ((n : Int) == 0) = false ∨ True := .inr trivial
    clear hb0
    have hb10 : (n : Int) ≤ (n : Int) := Int.le_refl _
    by_cases hcn : cap = n
    all_goals
      go_enter Tryd.func44, Tryd.ntmps44
      go_wp2_with (at_builtin; refine wpList_append_own_at _ rfl _ _ 27 rfl base 31 i0 _ 8 72 Tryd.underlying27 hi0 hz0 hz1 hz2 rfl (by decide) _ n (flat xs) rfl HO.out ⟨vb, 0, none⟩ 1 vc C rfl HCL.out HNEWS.out HONE.out (by unfold maxLen; omega) (by omega) hbase ?_; intro v' w1 hown' hgrow _ hat)
      go_ret
      exact ⟨v', rfl, hown', upd_of_grown hgrow, hat.imp id (fun h => ⟨_, h, Nat.le_refl _⟩)⟩
end Go.Proofs.YtfmpdbngpknmaaaDoor
/- slices.Insert of one item, all ways; slices.Delete of one. -/
namespace Go.Proofs.YtfmpdbngpknmaaaDoor
set_option linter.unusedSimpArgs false
set_option linter.unusedVariables false
open Go.RowKit

theorem insert1 (base vb vc i : Nat) (v : Value) (xs : List It) (x : It) (w : World) (ho : w.ownsRow base 31 8 v xs.length (flat xs)) (hi : i ≤ xs.length) (hv : Blk w vb 31 (itA x)) (hne : v.ownBlock ≠ some vb) (hbase : base ≤ w.heap.size) (hn : xs.length ≤ 1000000000) :
    Calls Tryd.prog 44 #[v, .int .i64 i, .slice (some ⟨vb, 0, none⟩) 1 vc] w fun e w' =>
      ∃ v', e = .returned v' ∧ w'.ownsRow base 31 8 v' (xs.take i ++ x :: xs.drop i).length (flat (xs.take i ++ x :: xs.drop i)) ∧ Upd (fun k => v.ownBlock = some k) w w' ∧ (v'.ownBlock = v.ownBlock ∨ ∃ k, v'.ownBlock = some k ∧ w.heap.size ≤ k) := by
  by_cases hin : i = xs.length
  · subst hin
    rw [List.take_length, List.drop_length]
    exact insert_end base vb vc v xs x w ho hv hbase hn
  · rcases Items.of_own ho with ⟨_, rfl⟩ | ⟨g, cap, R, rfl, hb, hI⟩
    · simp at hi hin; omega
    · have hlen : (xs.take i ++ x :: xs.drop i).length = xs.length + 1 := by rw [List.length_append, List.length_take, List.length_cons, List.length_drop]; omega
      have hle := hI.le
      by_cases hc : xs.length + 1 ≤ cap
      · refine (insert_shift g cap i vb vc xs R x w hI (by omega) hc hv (fun e => hne (by rw [e]; rfl)) hn).mono ?_
        rintro e w' ⟨rfl, ⟨R', hI'⟩, hu⟩
        refine ⟨_, rfl, ?_, hu.mono fun k _ hk => ?_, .inl rfl⟩
        · have h := hI'.own hb
          rw [hlen] at h ⊢
          exact h
        · rw [show k = g from hk]; rfl
      · refine (insert_grow g cap i vb vc xs R x w hI (by omega) (by omega) hv hn).mono ?_
        rintro e w' ⟨G, R', rfl, hI', hu⟩
        refine ⟨_, rfl, ?_, hu.non, .inr ⟨_, rfl, Nat.le_refl _⟩⟩
        have h := hI'.own hbase
        rw [hlen] at h ⊢
        exact h

theorem step_append_run {ops : Array Oper} {o : Oper} {a : Act} {w : World} {K : Act → World → Prop} {Q : Exit → Act → World → Prop} {E : Prop}
    (hg : o.guard = none) (d x : Operand) (dT sT : TypeId) (hop : o.op = Op.call { callee := Callee.builtin Builtin.append, args := #[d, x], argTypes := #[dT, sT] })
    (v u : Value) (hd : a.eval d = v) (hx : a.eval x = u) {v' : Value} {w' : World} (hr : (Builtin.append_ #[dT, sT] o.type #[v, u]).run Tryd.prog w = .ok v' w') (hK : K (a.put o.dst v') w') :
    if Region.wanted o (yielded ops a.tmps) = true then Oper.wp Tryd.prog o a w K Q else E := by
  have hw : Region.wanted o (yielded ops a.tmps) = true := by simp [Region.wanted, hg]
  rw [if_pos hw]
  unfold Oper.wp
  simp [execOp, hop, resolve, invoke, builtin, hd, hx, hr, Result.andThen]
  exact hK

set_option maxRecDepth 100000 in
set_option maxHeartbeats 2000000 in
theorem delete1 (g cap i p : Nat) (xs : List It) (R : List Value) (w : World) (hI : Items w g cap xs R) (hp : xs.length = p + 1) (hi : i ≤ p) (hn : xs.length ≤ 1000000000) :
    Calls Tryd.prog 40 #[.slice (some ⟨g, 0, none⟩) (p + 1) cap, .int .i64 i, .int .i64 ((i : Int) + 1)] w fun e w' =>
      e = .returned (.slice (some ⟨g, 0, none⟩) p cap) ∧ (∃ R', Items w' g cap (xs.eraseIdx i) R') ∧ Upd (One g) w w' := by
  obtain ⟨i0, hi0, hz0, hz1, hz2⟩ := info_parts info31
  have hbig := hI.big
  have hle := hI.le
  have hfit := hI.fit
  unfold maxLen at hbig
  have hId : Items w.drew g cap xs R := hI.kept rfl
  have hdl : (flat (xs.drop (i + 1))).length = (p - i) * 8 := by rw [flat_len, List.length_drop, hp]; congr 1; omega
  have hap : ∀ (A : Addr) ty c, (p - i = 0 ∨ A = ⟨g, (i + 1) * 8, none⟩) → (Builtin.append_ #[27, 27] ty #[.slice (some ⟨g, 0, none⟩) i cap, .slice (some A) (p - i) c]).run Tryd.prog w.drew = .ok (.slice (some ⟨g, 0, none⟩) p cap) (w.drew.setRow g (over (flat xs ++ R).toArray (i * 8) (flat (xs.drop (i + 1))))) := fun A ty c hA => by
    have h := run_append_room (P := Tryd.prog) (w := w.drew) 27 ty 31 i0 Tryd.underlying27 hi0 g i cap _ hId.heap A (p - i) c (flat (xs.drop (i + 1))) (by rw [hz1, hdl])
      (fun j u hj => by
        have hj2 := (List.getElem?_eq_some_iff.1 hj).1
        rw [hdl] at hj2
        rcases hA with h0 | rfl
        · omega
        · rw [Addr.add_lit, hId.cell, List.getElem?_append_left (by rw [flat_len]; omega)]
          rw [← flat_drop, List.getElem?_drop] at hj; exact hj)
      (flat_one _) (by omega) (by rw [hz1, hdl, List.size_toArray, List.length_append, flat_len]; omega)
    rw [hz1, show i + (p - i) = p by omega] at h
    exact h
  have hpl : p < xs.length := by omega
  have hI1 : Items (w.drew.setRow g (over (flat xs ++ R).toArray (i * 8) (flat (xs.drop (i + 1))))) g cap (xs.eraseIdx i ++ [xs[p]]) R := by
    refine hId.over ?_ ?_
    · rw [hdl, List.take_append_of_le_length (by rw [flat_len]; omega), flat_take, show i * 8 + (p - i) * 8 = p * 8 by omega, List.drop_append, flat_drop, show p * 8 - (flat xs).length = 0 by rw [flat_len]; omega, List.drop_zero,
        List.eraseIdx_eq_take_drop_succ, flat_app, flat_app, List.drop_eq_getElem_cons hpl, show xs.drop (p + 1) = [] from List.drop_of_length_le (by omega)]
      simp only [List.append_assoc]
    · rw [List.length_append, List.length_eraseIdx, if_pos (by omega), List.length_singleton]; omega
  obtain ⟨z, hz⟩ : ∃ z, z = xs[p] := ⟨_, rfl⟩
  rw [← hz] at hI1
  obtain ⟨W1, hW1⟩ : ∃ W1, W1 = w.drew.setRow g (over (flat xs ++ R).toArray (i * 8) (flat (xs.drop (i + 1)))) := ⟨_, rfl⟩
  rw [← hW1] at hap hI1
  have hu1 : Upd (One g) w W1 := by rw [hW1]; exact ((Upd.refl (One g) w).drew).setRow (g := g) (fun _ => rfl) _
  have hel : (xs.eraseIdx i).length = p := by rw [List.length_eraseIdx, if_pos (by omega)]; omega
  obtain ⟨W2, hcl, ⟨R2, hI2⟩, hu2⟩ := hI1.clear p (by rw [List.length_append, hel]; omega)
  rw [List.take_left' hel] at hI2
  rw [List.length_append, hel, List.length_singleton, Nat.add_sub_cancel_left] at hcl
  have hu3 := hu1.same hu2
  have HAP := Lib.hid hap; have HI2 := Lib.hid hI2; have HU3 := Lib.hid hu3
  rw [hp] at hn hle
  clear hap hI2 hu3 hu1 hu2 hW1 hI1 hel hz hpl hId hdl hfit hi0 hz0 hz1 hz2 hp hI
  have hb1 : (0 : Int) ≤ (i : Int) := by omega
  have hb2 : (i : Int) ≤ (p : Int) := by omega
  have hb3 : (i : Int) + 1 ≤ (p : Int) + 1 := by omega
  have hb4 : (p : Int) + 1 ≤ (cap : Int) := by omega
  have hb5 : ¬ (cap = i) := by omega
  have hb6 : ¬ (cap = p) := by omega
  have hb7 : ((i : Int) == (i : Int) + 1) = false := by simp; omega
  have hb8 : ((i : Int) + 1).toNat = i + 1 := by omega
  have hb9 : (0 : Int) ≤ (i : Int) + 1 := by omega
  have hb10 : (i : Int) ≤ (i : Int) + 1 := by omega
  have hb11 : (i : Int) ≤ (p : Int) + 1 := by omega
  have hb12 : i ≤ cap := by omega
  have hb13 : p ≤ cap := by omega
  by_cases hcp : cap = i + 1
  · subst hcp
    obtain rfl : i = p := by omega
    have hap := fun ty c => HAP.out ⟨g, 0, none⟩ ty c (.inl (Nat.sub_self _))
    rw [Nat.sub_self] at hap
    have HAQ := Lib.hid hap; clear hap
    go_enter Tryd.func40, Tryd.ntmps40
    go_wp2_with fail
    go_region_law (refine step_append_run rfl _ _ 27 27 rfl (.slice (some ⟨g, 0, none⟩) i (i + 1)) (.slice (some ⟨g, 0, none⟩) 0 0) (by simp [Act.eval, Act.put]) (by simp [Act.eval, Act.put]) (HAQ.out _ _) ?_)
    go_wp2_with fail
    go_ret
    exact ⟨rfl, ⟨_, HI2.out⟩, HU3.out⟩
  · have hap := fun ty c => HAP.out ⟨g, (i + 1) * 8, none⟩ ty c (.inr rfl)
    have HAQ := Lib.hid hap; clear hap
    go_enter Tryd.func40, Tryd.ntmps40
    go_wp2_with fail
    go_region_law (refine step_append_run rfl _ _ 27 27 rfl (.slice (some ⟨g, 0, none⟩) i cap) (.slice (some ⟨g, (i + 1) * 8, none⟩) (p - i) (cap - (i + 1))) (by simp [Act.eval, Act.put]) (by simp [Act.eval, Act.put]) (HAQ.out _ _) ?_)
    go_wp2_with fail
    go_ret
    exact ⟨rfl, ⟨_, HI2.out⟩, HU3.out⟩
end Go.Proofs.YtfmpdbngpknmaaaDoor
/- Whether a command may be: words.Key, near, may. -/
namespace Go.Proofs.YtfmpdbngpknmaaaDoor
set_option linter.unusedSimpArgs false
set_option linter.unusedVariables false
open Go.RowKit

def chB (c : UInt8) : Bool := decide (32 < c.toNat) && decide (c.toNat ≠ 127)
theorem keyB_eq (k : List UInt8) : keyB k = (!k.isEmpty && k.all chB && decide (k.length ≤ 250)) := rfl

set_option maxHeartbeats 1000000 in
theorem key (k : List UInt8) (hl : k.length ≤ 9223372036854775807) (w : World) : Calls Tryd.prog 29 #[.string ⟨k.toArray⟩] w fun e w' => e = .returned (.bool (keyB k)) ∧ w = w' := by
  obtain ⟨n, hn⟩ : ∃ n, n = k.length := ⟨_, rfl⟩
  have HN := Lib.hid hn
  rw [← hn] at hl
  have hfin := keyB_eq k
  rw [← hn] at hfin
  have HF := Lib.hid hfin
  have hsz : (⟨k.toArray⟩ : ByteArray).size = n := by rw [hn]; rfl
  clear hn hfin
  go_enter Tryd.func29, Tryd.ntmps29
  go_wp2_with fail
  go_loop [7] (fun i => ∃ j : Nat, j ≤ n ∧ i = .int .i64 j ∧ (k.take j).all chB = true) (fun i => n - (intOf i).toNat)
  case atStart => exact ⟨0, Nat.zero_le _, rfl, rfl⟩
  case round =>
    obtain ⟨j, hj, rfl, hall⟩ := hrel
    have HA := Lib.hid hall; clear hall
    by_cases hlt : j < n
    · have hjs : j < (⟨k.toArray⟩ : ByteArray).size := by rw [hsz]; exact hlt
      have hjk : j < k.length := by rw [← HN.out]; exact hlt
      have hbyte : (⟨k.toArray⟩ : ByteArray)[j]'hjs = k[j]'hjk := rfl
      have HB := Lib.hid hbyte; clear hbyte
      have hbad : chB (k[j]'hjk) = false → keyB k = false := fun h => by
        rw [keyB_eq]
        have : k.all chB = false := by
          refine Bool.eq_false_iff.2 fun h2 => ?_
          have := List.all_eq_true.1 h2 _ (List.getElem_mem hjk)
          rw [h] at this; cases this
        rw [this]; simp
      have HBAD := Lib.hid hbad; clear hbad
      by_cases h32 : ((⟨k.toArray⟩ : ByteArray)[j]'hjs).toNat ≤ 32
      · go_wp2_with fail
        go_ret
        refine ⟨ret_bool (HBAD.out ?_).symm, rfl⟩
        rw [← HB.out]; unfold chB; rw [decide_eq_false (by omega)]; rfl
      · by_cases h127 : ((⟨k.toArray⟩ : ByteArray)[j]'hjs).toNat = 127
        · have hb : ((((⟨k.toArray⟩ : ByteArray)[j]'hjs).toNat : Int) == 127) = true := by rw [h127]; rfl
          have H127 := Lib.hid h127; clear h127
          go_wp2_with fail
          go_ret
          refine ⟨ret_bool (HBAD.out ?_).symm, rfl⟩
          rw [← HB.out]; unfold chB; rw [H127.out]; rfl
        · have hb : ((((⟨k.toArray⟩ : ByteArray)[j]'hjs).toNat : Int) == 127) = false := by simp; omega
          have H127 := Lib.hid h127; clear h127
          go_wp2_with fail
          go_round
          case rel =>
            refine ⟨j + 1, by omega, by go_num, ?_⟩
            rw [List.take_succ_eq_append_getElem hjk, List.all_append, HA.out, ← HB.out]
            simp only [List.all_cons, List.all_nil, chB, Bool.true_and, Bool.and_true]
            rw [decide_eq_true (by omega), decide_eq_true H127.out]; rfl
          case measure => simp [intOf]; omega
    · obtain rfl : j = n := by omega
      have hka : k.all chB = true := by have h := HA.out; rwa [HN.out, List.take_length] at h
      have HKA := Lib.hid hka; clear hka
      have hfin2 : keyB k = (!k.isEmpty && decide (j ≤ 250)) := by rw [HF.out, HKA.out, Bool.and_true]
      have HF2 := Lib.hid hfin2; clear hfin2
      by_cases h0 : k = []
      · subst h0
        have hj0 : j = 0 := HN.out
        subst hj0
        go_wp2_with fail
        go_ret
        exact ⟨rfl, rfl⟩
      · have he : k.isEmpty = false := by simpa using h0
        have hne : (!k.isEmpty) = true := by rw [he]; rfl
        go_wp2_with fail
        go_ret
        refine ⟨ret_bool ?_, rfl⟩
        rw [HF2.out, he]
        by_cases h : j ≤ 250
        · rw [decide_eq_true h]; simp; omega
        · rw [decide_eq_false h]; simp; omega

theorem near1 (n : Int) (w : World) : Calls Tryd.prog 42 #[.int .i64 n] w fun e w' => e = .returned (.bool (!nearB n)) ∧ w = w' := by
  have hfin : (!nearB n) = (decide (n < -1099511627776) || decide (1099511627776 < n)) := by
    unfold nearB
    by_cases h1 : n < -1099511627776
    · rw [decide_eq_true h1, decide_eq_false (by omega)]; rfl
    · rw [decide_eq_false h1, decide_eq_true (by omega)]
      by_cases h2 : 1099511627776 < n
      · rw [decide_eq_true h2, decide_eq_false (by omega)]; rfl
      · rw [decide_eq_false h2, decide_eq_true (by omega)]; rfl
  rw [hfin]
  clear hfin
  by_cases h1 : n < -1099511627776
  all_goals
    go_enter Tryd.func42, Tryd.ntmps42
    go_wp2_with fail
    go_ret
    exact ⟨ret_bool (by first | (simp [h1]; done) | (simp; omega)), rfl⟩

set_option maxHeartbeats 1000000 in
theorem near3 (b cap : Nat) (x y z : Int) (w : World) (h0 : w.cell? ⟨b, 0, none⟩ = some (.int .i64 x)) (h1 : w.cell? ⟨b, 1, none⟩ = some (.int .i64 y)) (h2 : w.cell? ⟨b, 2, none⟩ = some (.int .i64 z)) :
    Calls Tryd.prog 28 #[.slice (some ⟨b, 0, none⟩) 3 cap] w fun e w' => e = .returned (.bool (nearB x && nearB y && nearB z)) ∧ w = w' := by
  have hcell : ∀ k, k < 3 → w.cell? ⟨b, k, none⟩ = some (.int .i64 (([x, y, z] : List Int).getD k 0)) := fun k hk => by
    have : k = 0 ∨ k = 1 ∨ k = 2 := by omega
    rcases this with rfl | rfl | rfl
    · exact h0
    · exact h1
    · exact h2
  have H := Lib.hid hcell; clear hcell h0 h1 h2
  have I : Calls Tryd.prog 48 #[.slice (some ⟨b, 0, none⟩) 3 cap, .func (.func 42) #[] #[]] w fun e w' => ((e = .returned (.int .i64 (-1)) ∧ (nearB x && nearB y && nearB z) = true) ∨ ∃ k : Nat, k < 3 ∧ e = .returned (.int .i64 k) ∧ (nearB x && nearB y && nearB z) = false) ∧ w = w' := by
    go_enter Tryd.func48, Tryd.ntmps48
    go_wp2_with fail
    go_loop [8] (fun i => ∃ j : Nat, j ≤ 3 ∧ i = .int .i64 j ∧ ∀ q, q < j → nearB (([x, y, z] : List Int).getD q 0) = true) (fun i => 3 - (intOf i).toNat)
    case atStart => exact ⟨0, Nat.zero_le _, rfl, fun q hq => absurd hq (by omega)⟩
    case round =>
      obtain ⟨j, hj, rfl, hall⟩ := hrel
      have HA := Lib.hid hall; clear hall
      by_cases hlt : j < 3
      · have hc := H.out j hlt
        obtain ⟨v, hv⟩ : ∃ v, v = ([x, y, z] : List Int).getD j 0 := ⟨_, rfl⟩
        rw [← hv] at hc
        have HV := Lib.hid hv; clear hv
        have g1 : (j : Int) < 3 := by omega
        go_wp2_with fail
        refine (near1 v w).mono ?_
        rintro e w' ⟨rfl, rfl⟩
        by_cases hv : nearB v = true
        · rw [hv]
          have HVN := Lib.hid hv; clear hv
          go_wp2_with fail
          go_round
          case rel =>
            refine ⟨j + 1, by omega, by go_num, fun q hq => ?_⟩
            rcases Nat.lt_or_ge q j with h | h
            · exact HA.out q h
            · obtain rfl : q = j := by omega
              rw [← HV.out]; exact HVN.out
          case measure => simp [intOf]; omega
        · rw [show nearB v = false by simpa using hv]
          have HVN := Lib.hid hv; clear hv
          go_wp2_with fail
          go_ret
          refine ⟨.inr ⟨j, hlt, rfl, ?_⟩, rfl⟩
          have hvv := HVN.out
          rw [HV.out] at hvv
          have : j = 0 ∨ j = 1 ∨ j = 2 := by omega
          rcases this with rfl | rfl | rfl
          · have : nearB x = false := by simpa using hvv
            rw [this]; rfl
          · have : nearB y = false := by simpa using hvv
            rw [this]; simp
          · have : nearB z = false := by simpa using hvv
            rw [this]; simp
      · obtain rfl : j = 3 := by omega
        go_wp2_with fail
        go_ret
        refine ⟨.inl ⟨rfl, ?_⟩, rfl⟩
        exact ⟨⟨HA.out 0 (by omega), HA.out 1 (by omega)⟩, HA.out 2 (by omega)⟩
  have HI := Lib.hid I; clear I
  have C : Calls Tryd.prog 41 #[.slice (some ⟨b, 0, none⟩) 3 cap, .func (.func 42) #[] #[]] w fun e w' => e = .returned (.bool (!(nearB x && nearB y && nearB z))) ∧ w = w' := by
    obtain ⟨B, hB⟩ : ∃ B, B = (nearB x && nearB y && nearB z) := ⟨_, rfl⟩
    rw [← hB] at HI ⊢
    go_enter Tryd.func41, Tryd.ntmps41
    go_wp2_with fail
    refine HI.out.mono ?_
    rintro e w' ⟨⟨rfl, hb⟩ | ⟨k, hk, rfl, hb⟩, rfl⟩
    · have HBB := Lib.hid hb; clear hb
      go_wp2_with fail
      go_ret
      exact ⟨ret_bool (by rw [HBB.out]; rfl), rfl⟩
    · have HBB := Lib.hid hb; clear hb
      have hk0 : (0 : Int) ≤ (k : Int) := by omega
      go_wp2_with fail
      go_ret
      exact ⟨ret_bool (by rw [HBB.out]; rfl), rfl⟩
  obtain ⟨B, hB⟩ : ∃ B, B = (nearB x && nearB y && nearB z) := ⟨_, rfl⟩
  rw [← hB] at C ⊢
  have HC := Lib.hid C; clear C hB
  go_enter Tryd.func28, Tryd.ntmps28
  go_wp2_with fail
  refine HC.out.mono ?_
  rintro e w' ⟨rfl, rfl⟩
  go_wp2_with fail
  go_ret
  exact ⟨ret_bool (by simp), rfl⟩

set_option maxRecDepth 100000 in
set_option maxHeartbeats 4000000 in
theorem may (c : Cd) (hk : c.key.length ≤ 9223372036854775807) (hv : c.val.length ≤ 9223372036854775807) (w : World) : Calls Tryd.prog 15 #[.agg (cdA c)] w fun e w' => e = .returned (.bool (mayB c)) ∧ Below w.heap.size w w' := by
  obtain ⟨op, mode, key, val, flags, exp, hasExp, cas, hasCas, delta, init, down, viv, vive, recache, inval⟩ := c
  simp only at hk hv
  have hsz : (⟨val.toArray⟩ : ByteArray).size = val.length := rfl
  simp only [cdA]
  by_cases hbad : op < 1 ∨ 7 < op ∨ mode < 0 ∨ 4 < mode ∨ 65536 < val.length
  · have hfin : mayB ⟨op, mode, key, val, flags, exp, hasExp, cas, hasCas, delta, init, down, viv, vive, recache, inval⟩ = false := by
      unfold mayB
      simp only
      rcases hbad with h | h | h | h | h
      · rw [decide_eq_false (by omega)]; simp
      · rw [show decide (op ≤ 7) = false from decide_eq_false (by omega)]; simp
      · rw [show decide (0 ≤ mode) = false from decide_eq_false (by omega)]; simp
      · rw [show decide (mode ≤ 4) = false from decide_eq_false (by omega)]; simp
      · rw [show decide (val.length ≤ 65536) = false from decide_eq_false (by omega)]; simp
    rw [hfin]
    clear hfin
    have hcases : op < 1 ∨ (1 ≤ op ∧ 7 < op) ∨ (1 ≤ op ∧ op ≤ 7 ∧ mode < 0) ∨ (1 ≤ op ∧ op ≤ 7 ∧ 0 ≤ mode ∧ 4 < mode) ∨ (1 ≤ op ∧ op ≤ 7 ∧ 0 ≤ mode ∧ mode ≤ 4 ∧ (65536 : Int) < (val.length : Int)) := by omega
    clear hbad
    rcases hcases with h | ⟨h, h1⟩ | ⟨h, h1, h2⟩ | ⟨h, h1, h2, h3⟩ | ⟨h, h1, h2, h3, h4⟩
    all_goals
      go_enter Tryd.func15, Tryd.ntmps15
      go_wp2_with fail
      go_ret
      exact ⟨rfl, (Below.refl _ _).alloc (Nat.le_refl _) _⟩
  · have g1 : 1 ≤ op := by omega
    have g2 : op ≤ 7 := by omega
    have g3 : 0 ≤ mode := by omega
    have g4 : mode ≤ 4 := by omega
    have g5 : (val.length : Int) ≤ 65536 := by omega
    have g5' : val.length ≤ 65536 := by omega
    have hfin : mayB ⟨op, mode, key, val, flags, exp, hasExp, cas, hasCas, delta, init, down, viv, vive, recache, inval⟩ = ((nearB exp && nearB vive && nearB recache) && (decide (op = 6) || keyB key)) := by
      unfold mayB
      simp only
      rw [decide_eq_true g1, decide_eq_true g2, decide_eq_true g3, decide_eq_true g4, decide_eq_true g5']
      simp [Bool.and_assoc]
    rw [hfin]
    clear hfin hbad
    obtain ⟨B, hB⟩ : ∃ B, B = (nearB exp && nearB vive && nearB recache) := ⟨_, rfl⟩
    rw [← hB]
    have N := fun b cap w h0 h1 h2 => near3 b cap exp vive recache w h0 h1 h2
    rw [← hB] at N
    have HN := Lib.hid N; clear N hB
    have K := Lib.hid (fun w => Go.Proofs.YtfmpdbngpknmaaaDoor.key key hk w)
    cases B with
    | false =>
      go_enter Tryd.func15, Tryd.ntmps15
      go_wp2_with fail
      refine (HN.out _ _ _ (by go_simp) (by go_simp) (by go_simp)).mono ?_
      rintro e w' ⟨rfl, rfl⟩
      go_wp2_with fail
      go_ret
      exact ⟨rfl, ((Below.refl _ _).alloc (Nat.le_refl _) _).alloc (by simp) _⟩
    | true =>
      by_cases h6 : op = 6
      · subst h6
        go_enter Tryd.func15, Tryd.ntmps15
        go_wp2_with fail
        refine (HN.out _ _ _ (by go_simp) (by go_simp) (by go_simp)).mono ?_
        rintro e w' ⟨rfl, rfl⟩
        go_wp2_with fail
        go_ret
        exact ⟨rfl, ((Below.refl _ _).alloc (Nat.le_refl _) _).alloc (by simp) _⟩
      · have hb6 : (op == 6) = false := by simpa using h6
        have hd6 : (true && (decide (op = 6) || keyB key)) = keyB key := by rw [decide_eq_false h6]; rfl
        rw [hd6]
        clear hd6 h6
        go_enter Tryd.func15, Tryd.ntmps15
        go_wp2_with fail
        refine (HN.out _ _ _ (by go_simp) (by go_simp) (by go_simp)).mono ?_
        rintro e w' ⟨rfl, rfl⟩
        go_wp2_with fail
        refine (K.out _).mono ?_
        rintro e w' ⟨rfl, rfl⟩
        go_wp2_with fail
        go_ret
        exact ⟨rfl, ((Below.refl _ _).alloc (Nat.le_refl _) _).alloc (by simp) _⟩
end Go.Proofs.YtfmpdbngpknmaaaDoor
