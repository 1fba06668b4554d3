/- A request and an answer as arguments, opened. Printed by gen_argreq.py. -/
import Derived.Test.YtlaagebdbcmckaaGreatDoorCArgSt
import Derived.Test.YtlaagebdbcmckaaGreatDoorCEmrep
import Derived.SliceStrings
namespace Go.Proofs.YtlaagebdbcmckaaGreatDoor
set_option linter.unusedSimpArgs false
set_option linter.unusedVariables false
open Go.ChangeShapes Go.WideShapes Go.ChangeAt Go.RowKit Go.Deep

/-- the cells of a struct of plain cells -/
theorem cells_struct {H : Type} {enc : TypeId × Value → H} {P : Program} {w : World} {t : TypeId} {ks : List KD} {cs : List Value} {held : Bool} {m : Nat} {x : DataW H × List MemPlace} (hks : kinds P t = some (ks.map some)) (h : DataW.trod enc P w 0 (fun _ => true) held m t cs = some x) :
    cs.length = ks.length ∧ ∀ (j : Nat) (kd : KD), ks[j]? = some kd → ∃ u, cs[j]? = some u ∧ kd.ok u := by
  unfold kinds at hks
  split at hks <;> try cases hks
  rename_i fs hu
  split at hks <;> simp only [Option.some.injEq, reduceCtorEq] at hks
  rename_i hone
  simp only [Bool.and_eq_true, beq_iff_eq] at hone
  obtain ⟨ys, n', _, _, hcl, hyl, hf⟩ := DataW.trod_struct hu h
  have hfsz : fs.size = ks.length := by have := congrArg List.length hks; simpa using this
  have hcsz : cs.length = ks.length := by rw [hcl, hone.2, hfsz]
  refine ⟨hcsz, fun j kd hj => ?_⟩
  have h1 : (fs.toList.map fun f => kdOf P f.type)[j]? = (ks.map some)[j]? := by rw [hks]
  rw [List.getElem?_map, List.getElem?_map, hj] at h1
  simp only [Option.map_some, Option.map_eq_some_iff] at h1
  obtain ⟨f, hf1, hf2⟩ := h1
  have hfj : fs[j]? = some f := by simpa using hf1
  obtain ⟨ho, hk⟩ := hone_of hone.1 j f hfj
  have hjl : j < cs.length := by rw [hcsz]; exact (List.getElem?_eq_some_iff.1 hj).1
  have h2 := hf j f hfj
  rw [ho, hk, show (cs.drop j).take 1 = [cs[j]'hjl] from by rw [List.drop_eq_getElem_cons hjl]; rfl] at h2
  have hys : ys[j]? = some (ys[j]'(by rw [hyl]; exact (Array.getElem?_eq_some_iff.1 hfj).1)) := List.getElem?_eq_getElem _
  rw [hys] at h2
  exact ⟨_, List.getElem?_eq_getElem hjl, kd_cell hf2 h2⟩
/-- one field of one cell -/
theorem one_cell {cs : List Value} {n : Nat} (h : n < cs.length) : ∃ u, cs[n]? = some u ∧ (cs.drop n).take 1 = [u] :=
  ⟨cs[n]'h, List.getElem?_eq_getElem h, by rw [List.drop_eq_getElem_cons h]; rfl⟩
theorem any_slice {H : Type} {enc : TypeId × Value → H} {P : Program} {w : World} {t e : TypeId} {u : Value} {held : Bool} {m : Nat} {x : DataW H × List MemPlace} (ht : P.underlying t = some (.slice e)) (h : DataW.trod enc P w 0 (fun _ => true) held m t [u] = some x) : ∃ a n c, u = .slice a n c := by
  rcases DataW.trod_slice ht h with ⟨h0, _⟩ | ⟨a, len, cap, _, _, _, _, h0, _⟩
  · exact ⟨_, _, _, by simpa using h0⟩
  · exact ⟨_, _, _, by simpa using h0⟩
theorem str_slice {H : Type} {enc : TypeId × Value → H} {P : Program} {w : World} {t e : TypeId} {u : Value} {held : Bool} {m : Nat} {x : DataW H × List MemPlace} (ht : P.underlying t = some (.slice e)) (he : P.underlying e = some .string) (hc : P.cellsOf e = 1) (h : DataW.trod enc P w 0 (fun _ => true) held m t [u] = some x) :
    ∃ a n c, ∃ ws : List (List UInt8), u = .slice a n c ∧ ws.length = n ∧ RawT w a ws := by
  rcases open_strings ht he hc h with ⟨h0, _⟩ | ⟨a, len', cap', ss, hcs, _, hl, hm, hz, _, hcell, hlen⟩
  · exact ⟨none, 0, 0, [], by simpa using h0, rfl, fun k x hx => by simp at hx⟩
  · refine ⟨some a, len', cap', (ss.take len').map fun s => s.data.toList, by simpa using hcs, ?_, ?_⟩
    · simp only [if_true] at hz
      simp; omega
    · simp only [if_true] at hz
      intro k x hx
      rw [List.getElem?_map, Option.map_eq_some_iff] at hx
      obtain ⟨s, hs, rfl⟩ := hx
      have hk : k < len' := by have := (List.getElem?_eq_some_iff.1 hs).1; simp at this; omega
      have hs' : ss[k]? = some s := by rwa [List.getElem?_take_of_lt hk] at hs
      have hc0 := hcell k (by omega)
      rw [List.getD_eq_getElem?_getD, hs', Option.getD_some] at hc0
      have h0' := hcell 0 (by omega)
      obtain ⟨b, o, e, hb⟩ := plain_addr h0'
      have e : a = ⟨b, o, none⟩ := e
      subst e
      refine ⟨b, o, rfl, hb, ?_⟩
      rw [Go.WideShapes.add_plain] at hc0
      exact hc0
set_option maxRecDepth 100000 in
theorem open_ans {H : Type} {enc : TypeId × Value → H} {W : World} {base : Nat} {v : Value} {d : DataW H} {ps : List MemPlace} (hv : Value.okWide Tryz.prog W .any base 38 v) (h : DataW.Trod enc Tryz.prog W 0 (fun _ => true) true 38 v d ps) :
    ∃ a : An, v = (SV.g (anM a)).den (fun _ => reOf 0) ∧ a.it.val.length ≤ maxLen ∧ (Lit.int .u32 a.it.flags).wf = true ∧ (Lit.int .u64 a.it.cas).wf = true := by
  have hu := Tryz.underlying38
  obtain ⟨cs, rfl, hsz⟩ := okWide_struct hu hv
  obtain ⟨fuel, hf⟩ := h
  obtain ⟨ys, n', _, _, hcl, hyl, hf⟩ := DataW.trod_struct hu hf
  have hcells : (Value.agg cs).cells.toList = cs.toList := rfl
  rw [hcells] at hcl hf
  have hc13 : Tryz.prog.cellsOf 38 = 13 := by kernel_rfl
  rw [hc13] at hcl
  have hc1 : Tryz.prog.cellsOf 3 = 1 := by kernel_rfl
  have hcu : Tryz.prog.cellsOf 31 = 1 := by kernel_rfl
  have hcb : Tryz.prog.cellsOf 4 = 1 := by kernel_rfl
  have hci : Tryz.prog.cellsOf 36 = 8 := by kernel_rfl
  have hy : ∀ i, i < 6 → ∃ y, ys[i]? = some y := fun i hi => ⟨_, List.getElem?_eq_getElem (by rw [hyl]; exact hi)⟩
  obtain ⟨y0, e0⟩ := hy 0 (by omega)
  obtain ⟨y1, e1⟩ := hy 1 (by omega)
  obtain ⟨y2, e2⟩ := hy 2 (by omega)
  obtain ⟨y3, e3⟩ := hy 3 (by omega)
  obtain ⟨y4, e4⟩ := hy 4 (by omega)
  obtain ⟨y5, e5⟩ := hy 5 (by omega)
  have f0 : DataW.trod enc Tryz.prog W 0 (fun _ => true) true n' 3 ((cs.toList.drop 0).take (Tryz.prog.cellsOf 3)) = some y0 := (hf 0 _ rfl).trans e0
  rw [hc1] at f0
  have f1 : DataW.trod enc Tryz.prog W 0 (fun _ => true) true n' 36 ((cs.toList.drop 1).take (Tryz.prog.cellsOf 36)) = some y1 := (hf 1 _ rfl).trans e1
  rw [hci] at f1
  have f2 : DataW.trod enc Tryz.prog W 0 (fun _ => true) true n' 31 ((cs.toList.drop 9).take (Tryz.prog.cellsOf 31)) = some y2 := (hf 2 _ rfl).trans e2
  rw [hcu] at f2
  have f3 : DataW.trod enc Tryz.prog W 0 (fun _ => true) true n' 4 ((cs.toList.drop 10).take (Tryz.prog.cellsOf 4)) = some y3 := (hf 3 _ rfl).trans e3
  rw [hcb] at f3
  have f4 : DataW.trod enc Tryz.prog W 0 (fun _ => true) true n' 4 ((cs.toList.drop 11).take (Tryz.prog.cellsOf 4)) = some y4 := (hf 4 _ rfl).trans e4
  rw [hcb] at f4
  have f5 : DataW.trod enc Tryz.prog W 0 (fun _ => true) true n' 4 ((cs.toList.drop 12).take (Tryz.prog.cellsOf 4)) = some y5 := (hf 5 _ rfl).trans e5
  rw [hcb] at f5
  obtain ⟨u0, c0, t0⟩ := one_cell (cs := cs.toList) (n := 0) (by omega)
  obtain ⟨u9, c9, t9⟩ := one_cell (cs := cs.toList) (n := 9) (by omega)
  obtain ⟨u10, c10, t10⟩ := one_cell (cs := cs.toList) (n := 10) (by omega)
  obtain ⟨u11, c11, t11⟩ := one_cell (cs := cs.toList) (n := 11) (by omega)
  obtain ⟨u12, c12, t12⟩ := one_cell (cs := cs.toList) (n := 12) (by omega)
  rw [t0] at f0; rw [t9] at f2; rw [t10] at f3; rw [t11] at f4; rw [t12] at f5
  obtain ⟨n0, rfl, _⟩ := kd_cell (kd := .i .i64) (by kernel_rfl) f0
  obtain ⟨n9, rfl, _⟩ := kd_cell (kd := .i .u64) (by kernel_rfl) f2
  obtain ⟨b10, rfl⟩ := kd_cell (kd := .b) (by kernel_rfl) f3
  obtain ⟨b11, rfl⟩ := kd_cell (kd := .b) (by kernel_rfl) f4
  obtain ⟨b12, rfl⟩ := kd_cell (kd := .b) (by kernel_rfl) f5
  obtain ⟨_, hj⟩ := cells_struct (ks := itKs) (by kernel_rfl) f1
  have sh : ∀ j, j < 8 → ((cs.toList.drop 1).take 8)[j]? = cs.toList[1 + j]? := fun j hj => by rw [List.getElem?_take_of_lt hj, List.getElem?_drop]
  obtain ⟨q1, d1, l1, rfl, k1⟩ := hj 0 _ rfl
  obtain ⟨q2, d2, n2, rfl, w2⟩ := hj 1 _ rfl
  obtain ⟨q3, d3, l3, rfl, k3⟩ := hj 2 _ rfl
  obtain ⟨q4, d4, n4, rfl, w4⟩ := hj 3 _ rfl
  obtain ⟨q5, d5, n5, rfl, w5⟩ := hj 4 _ rfl
  obtain ⟨q6, d6, n6, rfl, w6⟩ := hj 5 _ rfl
  obtain ⟨q7, d7, b7, rfl⟩ := hj 6 _ rfl
  obtain ⟨q8, d8, b8, rfl⟩ := hj 7 _ rfl
  rw [sh _ (by omega)] at d1 d2 d3 d4 d5 d6 d7 d8
  refine ⟨⟨n0, ⟨l1, n2, l3, n4, n5, n6, b7, b8⟩, n9, b10, b11, b12⟩, ?_, k3, w2, w5⟩
  have : cs = #[.int .i64 n0, .string ⟨l1.toArray⟩, .int .u32 n2, .string ⟨l3.toArray⟩, .int .i64 n4, .int .u64 n5, .int .i64 n6, .bool b7, .bool b8, .int .u64 n9, .bool b10, .bool b11, .bool b12] := by
    apply Array.toList_inj.1
    apply List.ext_getElem?
    intro j
    rcases Nat.lt_or_ge j 13 with hj8 | hj8
    · have : j = 0 ∨ j = 1 ∨ j = 2 ∨ j = 3 ∨ j = 4 ∨ j = 5 ∨ j = 6 ∨ j = 7 ∨ j = 8 ∨ j = 9 ∨ j = 10 ∨ j = 11 ∨ j = 12 := by omega
      rcases this with rfl | rfl | rfl | rfl | rfl | rfl | rfl | rfl | rfl | rfl | rfl | rfl | rfl
      · rw [c0]; rfl
      · exact d1
      · exact d2
      · exact d3
      · exact d4
      · exact d5
      · exact d6
      · exact d7
      · exact d8
      · rw [c9]; rfl
      · rw [c10]; rfl
      · rw [c11]; rfl
      · rw [c12]; rfl
    · rw [List.getElem?_eq_none (by omega), List.getElem?_eq_none (by simpa using hj8)]
  rw [this]; rfl
set_option maxRecDepth 100000 in
theorem open_req {H : Type} {enc : TypeId × Value → H} {W : World} {base : Nat} {v : Value} {d : DataW H} {ps : List MemPlace} (hv : Value.okWide Tryz.prog W .any base 26 v) (h : DataW.Trod enc Tryz.prog W 0 (fun _ => true) true 26 v d ps) :
    ∃ (X : Xq) (r : Mq), v = (SV.g (xqS X r)).den (fun _ => reOf 0) ∧ X.fn = r.flags.length ∧ RawT W X.fa r.flags := by
  have hu := Tryz.underlying26
  obtain ⟨cs, rfl, hsz⟩ := okWide_struct hu hv
  obtain ⟨fuel, hf⟩ := h
  obtain ⟨ys, n', _, _, hcl, hyl, hf⟩ := DataW.trod_struct hu hf
  have hcells : (Value.agg cs).cells.toList = cs.toList := rfl
  rw [hcells] at hcl hf
  have hc11 : Tryz.prog.cellsOf 26 = 11 := by kernel_rfl
  rw [hc11] at hcl
  have hc1 : Tryz.prog.cellsOf 3 = 1 := by kernel_rfl
  have hcb : Tryz.prog.cellsOf 4 = 1 := by kernel_rfl
  have hcs : Tryz.prog.cellsOf 9 = 1 := by kernel_rfl
  have hcc : Tryz.prog.cellsOf 23 = 1 := by kernel_rfl
  have hcf : Tryz.prog.cellsOf 24 = 1 := by kernel_rfl
  have hy : ∀ i, i < 11 → ∃ y, ys[i]? = some y := fun i hi => ⟨_, List.getElem?_eq_getElem (by rw [hyl]; exact hi)⟩
  obtain ⟨y0, e0⟩ := hy 0 (by omega)
  have f0 : DataW.trod enc Tryz.prog W 0 (fun _ => true) true n' 3 ((cs.toList.drop 0).take (Tryz.prog.cellsOf 3)) = some y0 := (hf 0 _ rfl).trans e0
  rw [hc1] at f0
  obtain ⟨u0, c0, t0⟩ := one_cell (cs := cs.toList) (n := 0) (by omega)
  rw [t0] at f0
  obtain ⟨y1, e1⟩ := hy 1 (by omega)
  have f1 : DataW.trod enc Tryz.prog W 0 (fun _ => true) true n' 23 ((cs.toList.drop 1).take (Tryz.prog.cellsOf 23)) = some y1 := (hf 1 _ rfl).trans e1
  rw [hcc] at f1
  obtain ⟨u1, c1, t1⟩ := one_cell (cs := cs.toList) (n := 1) (by omega)
  rw [t1] at f1
  obtain ⟨y2, e2⟩ := hy 2 (by omega)
  have f2 : DataW.trod enc Tryz.prog W 0 (fun _ => true) true n' 4 ((cs.toList.drop 2).take (Tryz.prog.cellsOf 4)) = some y2 := (hf 2 _ rfl).trans e2
  rw [hcb] at f2
  obtain ⟨u2, c2, t2⟩ := one_cell (cs := cs.toList) (n := 2) (by omega)
  rw [t2] at f2
  obtain ⟨y3, e3⟩ := hy 3 (by omega)
  have f3 : DataW.trod enc Tryz.prog W 0 (fun _ => true) true n' 4 ((cs.toList.drop 3).take (Tryz.prog.cellsOf 4)) = some y3 := (hf 3 _ rfl).trans e3
  rw [hcb] at f3
  obtain ⟨u3, c3, t3⟩ := one_cell (cs := cs.toList) (n := 3) (by omega)
  rw [t3] at f3
  obtain ⟨y4, e4⟩ := hy 4 (by omega)
  have f4 : DataW.trod enc Tryz.prog W 0 (fun _ => true) true n' 9 ((cs.toList.drop 4).take (Tryz.prog.cellsOf 9)) = some y4 := (hf 4 _ rfl).trans e4
  rw [hcs] at f4
  obtain ⟨u4, c4, t4⟩ := one_cell (cs := cs.toList) (n := 4) (by omega)
  rw [t4] at f4
  obtain ⟨y5, e5⟩ := hy 5 (by omega)
  have f5 : DataW.trod enc Tryz.prog W 0 (fun _ => true) true n' 9 ((cs.toList.drop 5).take (Tryz.prog.cellsOf 9)) = some y5 := (hf 5 _ rfl).trans e5
  rw [hcs] at f5
  obtain ⟨u5, c5, t5⟩ := one_cell (cs := cs.toList) (n := 5) (by omega)
  rw [t5] at f5
  obtain ⟨y6, e6⟩ := hy 6 (by omega)
  have f6 : DataW.trod enc Tryz.prog W 0 (fun _ => true) true n' 3 ((cs.toList.drop 6).take (Tryz.prog.cellsOf 3)) = some y6 := (hf 6 _ rfl).trans e6
  rw [hc1] at f6
  obtain ⟨u6, c6, t6⟩ := one_cell (cs := cs.toList) (n := 6) (by omega)
  rw [t6] at f6
  obtain ⟨y7, e7⟩ := hy 7 (by omega)
  have f7 : DataW.trod enc Tryz.prog W 0 (fun _ => true) true n' 4 ((cs.toList.drop 7).take (Tryz.prog.cellsOf 4)) = some y7 := (hf 7 _ rfl).trans e7
  rw [hcb] at f7
  obtain ⟨u7, c7, t7⟩ := one_cell (cs := cs.toList) (n := 7) (by omega)
  rw [t7] at f7
  obtain ⟨y8, e8⟩ := hy 8 (by omega)
  have f8 : DataW.trod enc Tryz.prog W 0 (fun _ => true) true n' 9 ((cs.toList.drop 8).take (Tryz.prog.cellsOf 9)) = some y8 := (hf 8 _ rfl).trans e8
  rw [hcs] at f8
  obtain ⟨u8, c8, t8⟩ := one_cell (cs := cs.toList) (n := 8) (by omega)
  rw [t8] at f8
  obtain ⟨y9, e9⟩ := hy 9 (by omega)
  have f9 : DataW.trod enc Tryz.prog W 0 (fun _ => true) true n' 24 ((cs.toList.drop 9).take (Tryz.prog.cellsOf 24)) = some y9 := (hf 9 _ rfl).trans e9
  rw [hcf] at f9
  obtain ⟨u9, c9, t9⟩ := one_cell (cs := cs.toList) (n := 9) (by omega)
  rw [t9] at f9
  obtain ⟨y10, e10⟩ := hy 10 (by omega)
  have f10 : DataW.trod enc Tryz.prog W 0 (fun _ => true) true n' 9 ((cs.toList.drop 10).take (Tryz.prog.cellsOf 9)) = some y10 := (hf 10 _ rfl).trans e10
  rw [hcs] at f10
  obtain ⟨u10, c10, t10⟩ := one_cell (cs := cs.toList) (n := 10) (by omega)
  rw [t10] at f10
  obtain ⟨x0, rfl, _⟩ := kd_cell (kd := .i .i64) (by kernel_rfl) f0
  obtain ⟨ca, cn, cc, rfl⟩ := any_slice Tryz.underlying23 f1
  obtain ⟨x2, rfl⟩ := kd_cell (kd := .b) (by kernel_rfl) f2
  obtain ⟨x3, rfl⟩ := kd_cell (kd := .b) (by kernel_rfl) f3
  obtain ⟨x4, rfl, _⟩ := kd_cell (kd := .s) (by kernel_rfl) f4
  obtain ⟨x5, rfl, _⟩ := kd_cell (kd := .s) (by kernel_rfl) f5
  obtain ⟨x6, rfl, _⟩ := kd_cell (kd := .i .i64) (by kernel_rfl) f6
  obtain ⟨x7, rfl⟩ := kd_cell (kd := .b) (by kernel_rfl) f7
  obtain ⟨x8, rfl, _⟩ := kd_cell (kd := .s) (by kernel_rfl) f8
  obtain ⟨fa, fn, fc, ws, rfl, hwl, hraw⟩ := str_slice Tryz.underlying24 Tryz.underlying9 hcs f9
  obtain ⟨x10, rfl, _⟩ := kd_cell (kd := .s) (by kernel_rfl) f10
  refine ⟨⟨ca, cn, cc, x3, x5, fa, fn, fc⟩, ⟨x0, [], x2, x4, x6, x7, x8, ws, x10⟩, ?_, hwl.symm, hraw⟩
  have : cs = #[.int .i64 x0, .slice ca cn cc, .bool x2, .bool x3, .string ⟨x4.toArray⟩, .string ⟨x5.toArray⟩, .int .i64 x6, .bool x7, .string ⟨x8.toArray⟩, .slice fa fn fc, .string ⟨x10.toArray⟩] := by
    apply Array.toList_inj.1
    apply List.ext_getElem?
    intro j
    rcases Nat.lt_or_ge j 11 with hj8 | hj8
    · have : j = 0 ∨ j = 1 ∨ j = 2 ∨ j = 3 ∨ j = 4 ∨ j = 5 ∨ j = 6 ∨ j = 7 ∨ j = 8 ∨ j = 9 ∨ j = 10 := by omega
      rcases this with rfl | rfl | rfl | rfl | rfl | rfl | rfl | rfl | rfl | rfl | rfl
      · rw [c0]; rfl
      · rw [c1]; rfl
      · rw [c2]; rfl
      · rw [c3]; rfl
      · rw [c4]; rfl
      · rw [c5]; rfl
      · rw [c6]; rfl
      · rw [c7]; rfl
      · rw [c8]; rfl
      · rw [c9]; rfl
      · rw [c10]; rfl
    · rw [List.getElem?_eq_none (by omega), List.getElem?_eq_none (by simpa using hj8)]
  rw [this]; rfl
end Go.Proofs.YtlaagebdbcmckaaGreatDoor
