/- What the program says of its types, and which slots of a function live across its regions (printed by gen_lay.py). -/
import Derived.Test.YtfpeholdlkfmoaaGreatDoorBS01
import Derived.Test.YtfpeholdlkfmoaaGreatDoorProg
namespace Go.Proofs.YtfpeholdlkfmoaaGreatDoor
set_option linter.unusedSimpArgs false
set_option linter.unusedVariables false
open Go.RowKit
set_option linter.defProp false
theorem ti0 : zG2 Tryz.prog 0 = some ⟨1, false, [SC.v (Value.tuple [].toArray)], [], 0, 1, 0, IntKind.i64⟩ := by kernel_rfl
theorem ti2 : zG2 Tryz.prog 2 = some ⟨1, false, [SC.i IntKind.i64 0], [], 0, 1, 1, IntKind.i64⟩ := by kernel_rfl
theorem ti3 : zG2 Tryz.prog 3 = some ⟨1, false, [SC.i IntKind.i64 0], [], 0, 1, 1, IntKind.i64⟩ := by kernel_rfl
theorem ti4 : zG2 Tryz.prog 4 = some ⟨1, false, [SC.b false], [], 0, 1, 7, IntKind.i64⟩ := by kernel_rfl
theorem ti9 : zG2 Tryz.prog 9 = some ⟨1, false, [SC.s []], [], 0, 1, 2, IntKind.i64⟩ := by kernel_rfl
theorem ti22 : zG2 Tryz.prog 22 = some ⟨1, false, [SC.v (Value.slice none 0 0)], [], 33, 8, 3, IntKind.i64⟩ := by kernel_rfl
theorem ti23 : zG2 Tryz.prog 23 = some ⟨1, false, [SC.i IntKind.u64 0], [], 0, 1, 1, IntKind.u64⟩ := by kernel_rfl
theorem ti25 : zG2 Tryz.prog 25 = some ⟨3, true, [SC.v (Value.slice none 0 0), SC.i IntKind.u64 0, SC.i IntKind.i64 0], [(0, 1, false), (1, 1, false), (2, 1, false)], 0, 1, 4, IntKind.i64⟩ := by kernel_rfl
theorem ti26 : zG2 Tryz.prog 26 = some ⟨1, false, [SC.i IntKind.u32 0], [], 0, 1, 1, IntKind.u32⟩ := by kernel_rfl
theorem ti28 : zG2 Tryz.prog 28 = some ⟨16, true, [SC.i IntKind.i64 0, SC.i IntKind.i64 0, SC.s [], SC.s [], SC.i IntKind.u32 0, SC.i IntKind.i64 0, SC.b false, SC.i IntKind.u64 0, SC.b false, SC.i IntKind.u64 0, SC.i IntKind.u64 0, SC.b false, SC.b false, SC.i IntKind.i64 0, SC.i IntKind.i64 0, SC.b false], [(0, 1, false), (1, 1, false), (2, 1, false), (3, 1, false), (4, 1, false), (5, 1, false), (6, 1, false), (7, 1, false), (8, 1, false), (9, 1, false), (10, 1, false), (11, 1, false), (12, 1, false), (13, 1, false), (14, 1, false), (15, 1, false)], 0, 1, 4, IntKind.i64⟩ := by kernel_rfl
theorem ti33 : zG2 Tryz.prog 33 = some ⟨8, true, [SC.s [], SC.i IntKind.u32 0, SC.s [], SC.i IntKind.i64 0, SC.i IntKind.u64 0, SC.i IntKind.i64 0, SC.b false, SC.b false], [(0, 1, false), (1, 1, false), (2, 1, false), (3, 1, false), (4, 1, false), (5, 1, false), (6, 1, false), (7, 1, false)], 0, 1, 4, IntKind.i64⟩ := by kernel_rfl
theorem ti35 : zG2 Tryz.prog 35 = some ⟨13, true, [SC.i IntKind.i64 0, SC.s [], SC.i IntKind.u32 0, SC.s [], SC.i IntKind.i64 0, SC.i IntKind.u64 0, SC.i IntKind.i64 0, SC.b false, SC.b false, SC.i IntKind.u64 0, SC.b false, SC.b false, SC.b false], [(0, 1, false), (1, 8, true), (9, 1, false), (10, 1, false), (11, 1, false), (12, 1, false)], 0, 1, 4, IntKind.i64⟩ := by kernel_rfl
theorem ti36 : zG2 Tryz.prog 36 = some ⟨1, false, [SC.v (Value.tuple { toList := [Value.agg [Value.slice none 0 0, Value.int IntKind.u64 0, Value.int IntKind.i64 0].toArray, Value.agg { toList := [Value.int IntKind.i64 0, Value.string { data := [].toArray }, Value.int IntKind.u32 0, Value.string { data := [].toArray }, Value.int IntKind.i64 0, Value.int IntKind.u64 0, Value.int IntKind.i64 0, Value.bool false, Value.bool false, Value.int IntKind.u64 0, Value.bool false, Value.bool false, Value.bool false] }] })], [], 0, 1, 0, IntKind.i64⟩ := by kernel_rfl
theorem ti40 : zG2 Tryz.prog 40 = some ⟨1, false, [SC.v (Value.slice none 0 0)], [], 28, 16, 3, IntKind.i64⟩ := by kernel_rfl
theorem ti41 : zG2 Tryz.prog 41 = some ⟨1, false, [SC.v (Value.slice none 0 0)], [], 3, 1, 3, IntKind.i64⟩ := by kernel_rfl
theorem ti43 : zG2 Tryz.prog 43 = some ⟨1, false, [SC.v (Value.slice none 0 0)], [], 48, 35, 3, IntKind.i64⟩ := by kernel_rfl
theorem ti46 : zG2 Tryz.prog 46 = some ⟨1, false, [SC.v (Value.slice none 0 0)], [], 9, 1, 3, IntKind.i64⟩ := by kernel_rfl
theorem ti48 : zG2 Tryz.prog 48 = some ⟨35, true, [SC.i IntKind.i64 0, SC.i IntKind.i64 0, SC.i IntKind.i64 0, SC.i IntKind.i64 0, SC.i IntKind.i64 0, SC.i IntKind.i64 0, SC.i IntKind.i64 0, SC.s [], SC.s [], SC.i IntKind.u32 0, SC.i IntKind.i64 0, SC.b false, SC.i IntKind.u64 0, SC.b false, SC.i IntKind.u64 0, SC.i IntKind.u64 0, SC.b false, SC.b false, SC.i IntKind.i64 0, SC.i IntKind.i64 0, SC.b false, SC.i IntKind.i64 0, SC.s [], SC.i IntKind.u32 0, SC.s [], SC.i IntKind.i64 0, SC.i IntKind.u64 0, SC.i IntKind.i64 0, SC.b false, SC.b false, SC.i IntKind.u64 0, SC.b false, SC.b false, SC.b false, SC.v (Value.slice none 0 0)], [(0, 1, false), (1, 1, false), (2, 1, false), (3, 1, false), (4, 1, false), (5, 16, true), (21, 13, true), (34, 1, false)], 0, 1, 4, IntKind.i64⟩ := by kernel_rfl
theorem ti51 : zG2 Tryz.prog 51 = some ⟨1, false, [SC.v (Value.tuple { toList := [Value.agg [Value.slice none 0 0, Value.int IntKind.u64 0, Value.int IntKind.i64 0].toArray, Value.bool false] })], [], 0, 1, 0, IntKind.i64⟩ := by kernel_rfl
theorem ti57 : zG2 Tryz.prog 57 = some ⟨1, false, [SC.v (Value.tuple [Value.int IntKind.i64 0, Value.bool false].toArray)], [], 0, 1, 0, IntKind.i64⟩ := by kernel_rfl
theorem ti64 : zG2 Tryz.prog 64 = some ⟨1, false, [SC.v (Value.pointer none)], [], 66, 23, 6, IntKind.i64⟩ := by kernel_rfl
theorem ti66 : zG2 Tryz.prog 66 = some ⟨23, true, [SC.v (Value.slice none 0 0), SC.i IntKind.u64 0, SC.i IntKind.i64 0, SC.i IntKind.i64 0, SC.i IntKind.i64 0, SC.i IntKind.i64 0, SC.s [], SC.s [], SC.i IntKind.u32 0, SC.i IntKind.i64 0, SC.b false, SC.i IntKind.u64 0, SC.b false, SC.i IntKind.u64 0, SC.i IntKind.u64 0, SC.b false, SC.b false, SC.i IntKind.i64 0, SC.i IntKind.i64 0, SC.b false, SC.i IntKind.i64 0, SC.i IntKind.i64 0, SC.b false], [(0, 3, true), (3, 1, false), (4, 16, true), (20, 1, false), (21, 1, false), (22, 1, false)], 0, 1, 4, IntKind.i64⟩ := by kernel_rfl
theorem ti73 : zG2 Tryz.prog 73 = some ⟨1, false, [SC.v (Value.pointer none)], [], 33, 8, 6, IntKind.i64⟩ := by kernel_rfl
theorem ti75 : zG2 Tryz.prog 75 = some ⟨1, false, [SC.v (Value.pointer none)], [], 82, 6, 6, IntKind.i64⟩ := by kernel_rfl
theorem ti76 : zG2 Tryz.prog 76 = some ⟨1, false, [SC.v (Value.tuple [Value.pointer none, Value.int IntKind.i64 0].toArray)], [], 0, 1, 0, IntKind.i64⟩ := by kernel_rfl
theorem ti78 : zG2 Tryz.prog 78 = some ⟨2, true, [SC.i IntKind.i64 0, SC.i IntKind.i64 0], [], 3, 1, 5, IntKind.i64⟩ := by kernel_rfl
theorem ti79 : zG2 Tryz.prog 79 = some ⟨1, false, [SC.i IntKind.u64 0], [], 0, 1, 1, IntKind.u64⟩ := by kernel_rfl
theorem ti80 : zG2 Tryz.prog 80 = some ⟨1, false, [SC.v (Value.map none)], [], 0, 1, 0, IntKind.i64⟩ := by kernel_rfl
theorem ti82 : zG2 Tryz.prog 82 = some ⟨6, true, [SC.v (Value.slice none 0 0), SC.i IntKind.u64 0, SC.i IntKind.i64 0, SC.i IntKind.i64 0, SC.v (Value.map none), SC.i IntKind.i64 0], [(0, 3, true), (3, 1, false), (4, 1, false), (5, 1, false)], 0, 1, 4, IntKind.i64⟩ := by kernel_rfl
theorem ti87 : zG2 Tryz.prog 87 = some ⟨1, false, [SC.v (Value.tuple { toList := [Value.string { data := [].toArray }, Value.bool false] })], [], 0, 1, 0, IntKind.i64⟩ := by kernel_rfl
theorem ti89 : zG2 Tryz.prog 89 = some ⟨1, false, [SC.v (Value.tuple [Value.int IntKind.u64 0, Value.bool false].toArray)], [], 0, 1, 0, IntKind.i64⟩ := by kernel_rfl
theorem ti112 : zG2 Tryz.prog 112 = some ⟨2, true, [SC.i IntKind.i64 0, SC.i IntKind.i64 0], [(0, 1, false), (1, 1, false)], 0, 1, 4, IntKind.i64⟩ := by kernel_rfl
theorem ti118 : zG2 Tryz.prog 118 = some ⟨1, false, [SC.v (Value.tuple { toList := [Value.agg [Value.int IntKind.i64 0, Value.int IntKind.i64 0].toArray, Value.bool false] })], [], 0, 1, 0, IntKind.i64⟩ := by kernel_rfl
def lay0 := And.intro ti0 (And.intro ti2 (And.intro ti3 (And.intro ti4 (And.intro ti9 (And.intro ti22 (And.intro ti23 (And.intro ti25 (And.intro ti26 (And.intro ti28 (And.intro ti33 (And.intro ti35 (And.intro ti36 (And.intro ti40 (And.intro ti41 (And.intro ti43 (And.intro ti46 (And.intro ti48 (And.intro ti51 (ti57)))))))))))))))))))
def lay1 := And.intro ti64 (And.intro ti66 (And.intro ti73 (And.intro ti75 (And.intro ti76 (And.intro ti78 (And.intro ti79 (And.intro ti80 (And.intro ti82 (And.intro ti87 (And.intro ti89 (And.intro ti112 (ti118))))))))))))
def zM := And.intro lay0 (lay1)
set_option linter.defProp false
abbrev kp6 : List Nat := [0, 1, 2, 6, 7, 8, 9, 10, 12, 13, 14, 15, 22, 61]
abbrev kp12 : List Nat := [0, 1, 2, 3, 4, 5, 6, 8, 9, 10, 11, 22, 48, 75, 76, 80, 84, 88, 94, 108, 114, 120, 124]
abbrev kp13 : List Nat := [0, 1, 2, 3, 4, 5, 26, 31, 44]
abbrev kp14 : List Nat := [0, 1, 2, 3, 4, 5, 6, 7, 8]
abbrev kp15 : List Nat := [0, 1, 4, 6]
abbrev kp16 : List Nat := [0, 1, 2, 6, 7, 8, 9, 10, 11, 12, 13, 14, 15, 16, 17, 26, 32, 63, 95, 102]
abbrev kp17 : List Nat := [0, 1, 4, 5]
abbrev kp18 : List Nat := [0, 1, 2, 4, 5, 6, 7, 19]
abbrev kp19 : List Nat := [0, 1, 2, 4, 5, 6, 7, 21, 28, 39]
abbrev kp34 : List Nat := [0, 2, 3, 4, 5, 10, 16, 113]
abbrev kp35 : List Nat := [0, 2, 3, 4, 5, 10, 31, 42, 64, 78, 79, 91, 117]
abbrev kp36 : List Nat := [0, 2, 3, 4, 5, 6, 7, 23, 35, 45, 63, 73, 78, 95]
abbrev kp37 : List Nat := [0, 2]
abbrev kp38 : List Nat := [0, 1, 4, 5, 13]
abbrev kp39 : List Nat := [0, 2]
abbrev kp40 : List Nat := [0, 2, 3, 4, 11, 15, 52]
abbrev kp41 : List Nat := [0, 2, 23]
abbrev kp42 : List Nat := [0, 1, 4, 5, 6, 7, 8, 13, 14, 15, 16, 23]
abbrev kp44 : List Nat := [0, 1, 2, 4]
abbrev kp58 : List Nat := [0, 2]
abbrev kp63 : List Nat := [0, 1, 3, 4, 5, 7, 8, 9, 10, 22, 28, 29, 30, 31, 41, 44, 45, 50, 51, 67, 76, 86, 87]
abbrev kp71 : List Nat := [0, 1, 4, 5, 6, 8, 21, 26, 27, 28, 29, 40]
abbrev kp72 : List Nat := [0, 1, 3, 4, 5, 6, 17, 24]
abbrev kp73 : List Nat := [0, 1, 2, 4, 5, 6, 15, 20]
abbrev res6 : List ResultVar := [ResultVar.tmp 6]
theorem hres6 : Tryz.f6.results.toList = res6 := by kernel_rfl
abbrev res12 : List ResultVar := [ResultVar.cell 8 25, ResultVar.cell 9 35]
theorem hres12 : Tryz.f12.results.toList = res12 := by kernel_rfl
abbrev res13 : List ResultVar := [ResultVar.tmp 4]
theorem hres13 : Tryz.f13.results.toList = res13 := by kernel_rfl
abbrev res14 : List ResultVar := [ResultVar.tmp 0]
theorem hres14 : Tryz.f14.results.toList = res14 := by kernel_rfl
abbrev res15 : List ResultVar := [ResultVar.tmp 4]
theorem hres15 : Tryz.f15.results.toList = res15 := by kernel_rfl
abbrev res16 : List ResultVar := [ResultVar.tmp 6]
theorem hres16 : Tryz.f16.results.toList = res16 := by kernel_rfl
abbrev res17 : List ResultVar := [ResultVar.cell 4 25]
theorem hres17 : Tryz.f17.results.toList = res17 := by kernel_rfl
abbrev res18 : List ResultVar := [ResultVar.cell 4 25, ResultVar.tmp 5]
theorem hres18 : Tryz.f18.results.toList = res18 := by kernel_rfl
abbrev res19 : List ResultVar := [ResultVar.cell 4 25]
theorem hres19 : Tryz.f19.results.toList = res19 := by kernel_rfl
abbrev res34 : List ResultVar := [ResultVar.cell 2 35]
theorem hres34 : Tryz.f34.results.toList = res34 := by kernel_rfl
abbrev res35 : List ResultVar := [ResultVar.cell 2 35]
theorem hres35 : Tryz.f35.results.toList = res35 := by kernel_rfl
abbrev res36 : List ResultVar := [ResultVar.cell 2 35]
theorem hres36 : Tryz.f36.results.toList = res36 := by kernel_rfl
abbrev res37 : List ResultVar := [ResultVar.cell 2 35]
theorem hres37 : Tryz.f37.results.toList = res37 := by kernel_rfl
abbrev res38 : List ResultVar := [ResultVar.tmp 4]
theorem hres38 : Tryz.f38.results.toList = res38 := by kernel_rfl
abbrev res39 : List ResultVar := [ResultVar.tmp 2]
theorem hres39 : Tryz.f39.results.toList = res39 := by kernel_rfl
abbrev res40 : List ResultVar := [ResultVar.cell 2 35]
theorem hres40 : Tryz.f40.results.toList = res40 := by kernel_rfl
abbrev res41 : List ResultVar := [ResultVar.cell 2 35]
theorem hres41 : Tryz.f41.results.toList = res41 := by kernel_rfl
abbrev res42 : List ResultVar := [ResultVar.tmp 4, ResultVar.tmp 5]
theorem hres42 : Tryz.f42.results.toList = res42 := by kernel_rfl
abbrev res44 : List ResultVar := [ResultVar.tmp 4]
theorem hres44 : Tryz.f44.results.toList = res44 := by kernel_rfl
abbrev res58 : List ResultVar := [ResultVar.tmp 2]
theorem hres58 : Tryz.f58.results.toList = res58 := by kernel_rfl
abbrev res63 : List ResultVar := [ResultVar.tmp 4]
theorem hres63 : Tryz.f63.results.toList = res63 := by kernel_rfl
abbrev res71 : List ResultVar := [ResultVar.cell 4 25]
theorem hres71 : Tryz.f71.results.toList = res71 := by kernel_rfl
abbrev res72 : List ResultVar := [ResultVar.tmp 4]
theorem hres72 : Tryz.f72.results.toList = res72 := by kernel_rfl
abbrev res73 : List ResultVar := [ResultVar.tmp 4]
theorem hres73 : Tryz.f73.results.toList = res73 := by kernel_rfl
abbrev rs12_7 : List (Nat × Nat) := [(0, 0), (0, 1), (0, 0), (0, 0), (0, 0), (0, 0), (0, 0), (0, 0), (0, 0), (0, 0), (0, 0), (0, 0), (0, 1), (0, 0), (0, 0), (0, 0), (1, 1), (1, 1), (1, 1)]
abbrev rs12_19 : List (Nat × Nat) := [(0, 0), (0, 0), (0, 0), (0, 0), (0, 0), (0, 0), (0, 0), (0, 0), (0, 0)]
abbrev rs12_29 : List (Nat × Nat) := [(0, 0), (0, 0), (0, 0), (0, 0), (0, 1), (0, 0), (1, 1)]
abbrev rs13_6 : List (Nat × Nat) := [(0, 0), (0, 0), (0, 0), (0, 0), (0, 0), (0, 0), (0, 0), (0, 0), (0, 0), (0, 0), (0, 0)]
abbrev rs14_5 : List (Nat × Nat) := [(0, 0), (0, 0), (0, 0), (0, 0), (0, 0), (0, 0), (0, 0), (0, 0)]
abbrev rs14_6 : List (Nat × Nat) := [(0, 0), (0, 0), (0, 0), (0, 0), (0, 0), (0, 0), (0, 0), (0, 0), (0, 0), (0, 0), (0, 0)]
abbrev rs16_12 : List (Nat × Nat) := [(0, 0), (0, 0), (0, 0), (0, 0), (0, 0), (0, 0), (0, 0), (0, 0), (1, 1), (1, 1), (1, 2), (0, 1), (0, 1), (1, 1), (2, 2)]
abbrev rs16_16 : List (Nat × Nat) := [(0, 0), (0, 0), (0, 0), (0, 0), (0, 0), (0, 0), (0, 0), (0, 0), (0, 0), (0, 0), (0, 0), (0, 0), (0, 0), (0, 0), (1, 1)]
abbrev rs19_10 : List (Nat × Nat) := [(0, 0), (0, 0), (0, 0), (0, 0), (0, 0), (0, 0), (0, 0), (0, 0), (0, 0), (1, 1), (1, 1)]
abbrev rs34_4 : List (Nat × Nat) := [(0, 0), (0, 0), (0, 0), (0, 0), (0, 0), (0, 0), (0, 0), (0, 0), (0, 0), (0, 0), (0, 0), (0, 0), (0, 0), (0, 0), (0, 0), (1, 1), (1, 1), (1, 1), (1, 1)]
abbrev rs34_6 : List (Nat × Nat) := [(0, 0), (0, 0), (0, 0), (0, 0), (0, 0), (0, 0), (0, 0), (0, 0), (0, 0), (0, 0), (0, 0), (0, 0), (0, 0), (0, 0), (0, 0), (0, 0), (0, 0), (0, 0), (0, 0), (0, 0), (0, 0), (0, 0), (0, 0), (0, 0), (0, 0), (0, 0), (0, 0), (0, 0), (0, 0), (0, 0), (0, 0)]
abbrev rs34_7 : List (Nat × Nat) := [(0, 0), (0, 0), (0, 0), (0, 0), (0, 0), (0, 0), (0, 0), (0, 0), (0, 0), (0, 0), (0, 0), (0, 0), (0, 0), (0, 0), (0, 0), (0, 0), (0, 0), (0, 0), (0, 0), (0, 0), (0, 0), (0, 0), (0, 0), (0, 0), (0, 0)]
abbrev rs35_9 : List (Nat × Nat) := [(0, 0), (0, 0), (0, 0), (0, 0), (0, 0), (0, 0), (0, 0), (0, 0), (0, 0), (0, 0), (0, 0), (0, 0), (0, 0)]
abbrev rs35_12 : List (Nat × Nat) := [(0, 0), (0, 0), (0, 0), (0, 0), (0, 0), (0, 0), (0, 0), (0, 0), (0, 0), (0, 0), (0, 0), (0, 0), (0, 0)]
abbrev rs35_21 : List (Nat × Nat) := [(0, 0), (0, 0), (0, 0), (0, 0), (0, 0), (0, 0), (0, 0), (0, 0), (0, 0), (0, 0), (0, 0), (0, 0)]
abbrev rs36_2 : List (Nat × Nat) := [(0, 0), (0, 0), (0, 0), (0, 0), (0, 0), (0, 0), (0, 0), (0, 0), (0, 0), (0, 0), (0, 0), (0, 0)]
abbrev rs36_17 : List (Nat × Nat) := [(0, 0), (0, 0), (0, 0), (0, 0), (0, 0), (0, 0), (0, 0), (0, 0), (0, 0), (0, 0), (0, 0), (0, 0)]
abbrev rs39_1 : List (Nat × Nat) := [(0, 0), (0, 0), (0, 0), (0, 0), (0, 0), (0, 0), (0, 0), (0, 0), (0, 0), (0, 0), (0, 0)]
abbrev rs40_6 : List (Nat × Nat) := [(0, 1), (0, 0), (0, 0), (0, 0), (0, 0), (0, 0), (0, 0), (0, 0), (0, 0), (0, 0), (0, 0), (0, 0), (0, 0), (0, 0), (0, 0), (0, 0), (1, 1), (1, 1), (1, 1), (1, 1)]
abbrev rs41_2 : List (Nat × Nat) := [(0, 0), (0, 0), (0, 0), (0, 0), (0, 0), (0, 0), (0, 0), (0, 0), (0, 0), (0, 0)]
abbrev rs58_1 : List (Nat × Nat) := [(0, 0), (0, 0), (0, 0), (0, 0), (0, 0), (0, 0), (0, 0), (0, 0), (0, 0), (0, 0), (0, 0), (0, 0), (0, 0), (0, 0), (0, 0), (0, 0), (0, 0), (0, 0), (0, 0)]
abbrev rs63_1 : List (Nat × Nat) := [(0, 0), (0, 0), (0, 0), (0, 0), (0, 0), (0, 0), (0, 0), (0, 0), (0, 0), (0, 0), (0, 0), (0, 0)]
abbrev rs63_18 : List (Nat × Nat) := [(0, 0), (0, 0), (0, 0), (0, 0), (0, 0), (0, 0), (0, 0), (0, 0), (0, 0), (0, 0), (1, 1), (1, 1), (1, 2), (0, 1), (0, 1), (1, 1), (2, 2)]
abbrev rs63_29 : List (Nat × Nat) := [(0, 0), (0, 1), (0, 0), (0, 1), (0, 1), (0, 0), (0, 0), (0, 0), (1, 1), (1, 1), (1, 1)]
abbrev rs72_1 : List (Nat × Nat) := [(0, 0), (0, 0), (0, 0), (0, 0), (0, 0), (0, 0), (0, 0), (0, 0), (0, 0), (0, 1), (0, 0), (0, 0), (1, 1)]
end Go.Proofs.YtfpeholdlkfmoaaGreatDoor
