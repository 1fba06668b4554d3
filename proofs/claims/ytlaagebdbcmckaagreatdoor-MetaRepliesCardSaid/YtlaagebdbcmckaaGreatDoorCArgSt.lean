/- Arguments that are structs of plain cells, opened. -/
import Derived.Test.YtlaagebdbcmckaaGreatDoorCArgRow
import Derived.Test.YtlaagebdbcmckaaGreatDoorCEquiet
namespace Go.Proofs.YtlaagebdbcmckaaGreatDoor
set_option linter.unusedSimpArgs false
set_option linter.unusedVariables false
open Go.ChangeShapes Go.WideShapes Go.ChangeAt Go.RowKit Go.Deep

theorem open_struct {H : Type} {enc : TypeId × Value → H} {P : Program} {w : World} {base : Nat} {t : TypeId} {ks : List KD} {v : Value} {d : DataW H} {ps : List MemPlace} (hks : kinds P t = some (ks.map some)) (hv : Value.okWide P w .any base t v) (h : DataW.Trod enc P w 0 (fun _ => true) true t v d ps) :
    ∃ cs : Array Value, v = .agg cs ∧ cs.size = ks.length ∧ ∀ (j : Nat) (kd : KD), ks[j]? = some kd → ∃ u, cs[j]? = some u ∧ kd.ok u := by
  unfold kinds at hks
  split at hks <;> try cases hks
  rename_i fs hu
  split at hks <;> simp only [Option.some.injEq, reduceCtorEq] at hks
  rename_i hone
  simp only [Bool.and_eq_true, beq_iff_eq] at hone
  obtain ⟨cs, rfl, hsz⟩ := okWide_struct hu hv
  obtain ⟨fuel, hf⟩ := h
  obtain ⟨ys, n', _, _, hcl, hyl, hf⟩ := DataW.trod_struct hu hf
  have hfsz : fs.size = ks.length := by have := congrArg List.length hks; simpa using this
  have hcsz : cs.size = ks.length := by rw [hsz, hone.2, hfsz]
  have hcells : (Value.agg cs).cells.toList = cs.toList := rfl
  refine ⟨cs, rfl, hcsz, fun j kd hj => ?_⟩
  have h1 : (fs.toList.map fun f => kdOf P f.type)[j]? = (ks.map some)[j]? := by rw [hks]
  rw [List.getElem?_map, List.getElem?_map, hj] at h1
  simp only [Option.map_some, Option.map_eq_some_iff] at h1
  obtain ⟨f, hf1, hf2⟩ := h1
  have hfj : fs[j]? = some f := by simpa using hf1
  obtain ⟨ho, hk⟩ := hone_of hone.1 j f hfj
  have hjl : j < cs.toList.length := by rw [Array.length_toList, hcsz]; exact (List.getElem?_eq_some_iff.1 hj).1
  have h2 := hf j f hfj
  rw [ho, hk, hcells, show (cs.toList.drop j).take 1 = [cs.toList[j]'hjl] from by rw [List.drop_eq_getElem_cons hjl]; rfl] at h2
  have hys : ys[j]? = some (ys[j]'(by rw [hyl]; exact (Array.getElem?_eq_some_iff.1 hfj).1)) := List.getElem?_eq_getElem _
  rw [hys] at h2
  refine ⟨_, ?_, kd_cell hf2 h2⟩
  rw [← Array.getElem?_toList]
  exact List.getElem?_eq_getElem hjl
def itKs : List KD := [.s, .i .u32, .s, .i .i64, .i .u64, .i .i64, .b, .b]
set_option maxRecDepth 100000 in
theorem open_item {H : Type} {enc : TypeId × Value → H} {W : World} {base : Nat} {v : Value} {d : DataW H} {ps : List MemPlace} (hv : Value.okWide Tryz.prog W .any base 36 v) (h : DataW.Trod enc Tryz.prog W 0 (fun _ => true) true 36 v d ps) :
    ∃ x : It, v = (SV.g (itM x)).den (fun _ => reOf 0) ∧ x.key.length ≤ maxLen ∧ x.val.length ≤ maxLen ∧ (Lit.int .u32 x.flags).wf = true ∧ (Lit.int .u64 x.cas).wf = true ∧ (Lit.int .i64 x.exp).wf = true := by
  obtain ⟨cs, rfl, hsz, hj⟩ := open_struct (ks := itKs) (by kernel_rfl) hv h
  have hlen : itKs.length = 8 := rfl
  rw [hlen] at hsz
  obtain ⟨q0, c0, l0, rfl, k0⟩ := hj 0 _ rfl
  obtain ⟨q1, c1, n1, rfl, w1⟩ := hj 1 _ rfl
  obtain ⟨q2, c2, l2, rfl, k2⟩ := hj 2 _ rfl
  obtain ⟨q3, c3, n3, rfl, w3⟩ := hj 3 _ rfl
  obtain ⟨q4, c4, n4, rfl, w4⟩ := hj 4 _ rfl
  obtain ⟨q5, c5, n5, rfl, _⟩ := hj 5 _ rfl
  obtain ⟨q6, c6, b6, rfl⟩ := hj 6 _ rfl
  obtain ⟨q7, c7, b7, rfl⟩ := hj 7 _ rfl
  refine ⟨⟨l0, n1, l2, n3, n4, n5, b6, b7⟩, ?_, k0, k2, w1, w4, w3⟩
  have : cs = #[.string ⟨l0.toArray⟩, .int .u32 n1, .string ⟨l2.toArray⟩, .int .i64 n3, .int .u64 n4, .int .i64 n5, .bool b6, .bool b7] := by
    apply Array.toList_inj.1
    apply List.ext_getElem?
    intro j
    rw [Array.getElem?_toList]
    rcases Nat.lt_or_ge j 8 with hj8 | hj8
    · have : j = 0 ∨ j = 1 ∨ j = 2 ∨ j = 3 ∨ j = 4 ∨ j = 5 ∨ j = 6 ∨ j = 7 := by omega
      rcases this with rfl | rfl | rfl | rfl | rfl | rfl | rfl | rfl <;> (first | rw [c0] | rw [c1] | rw [c2] | rw [c3] | rw [c4] | rw [c5] | rw [c6] | rw [c7]) <;> rfl
    · rw [Array.getElem?_eq_none (by omega), List.getElem?_eq_none (by simpa using hj8)]
  rw [this]; rfl
end Go.Proofs.YtlaagebdbcmckaaGreatDoor
