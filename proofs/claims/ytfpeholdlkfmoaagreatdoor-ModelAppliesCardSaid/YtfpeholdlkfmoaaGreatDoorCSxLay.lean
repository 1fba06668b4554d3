/- What the program says of its types, and which slots of a function live across its regions (printed by gen_lay.py). -/
import Derived.Test.YtfpeholdlkfmoaaGreatDoorBS01
import Derived.Test.YtfpeholdlkfmoaaGreatDoorProg
namespace Go.Proofs.YtfpeholdlkfmoaaGreatDoor
set_option linter.unusedSimpArgs false
set_option linter.unusedVariables false
open Go.RowKit
set_option linter.defProp false
theorem ti0 : zH1 Tryz.prog 0 = some ⟨1, false, [SC.v (Value.tuple [].toArray)], [], 0, 1, 0, IntKind.i64⟩ := by kernel_rfl
theorem ti2 : zH1 Tryz.prog 2 = some ⟨1, false, [SC.i IntKind.i64 0], [], 0, 1, 1, IntKind.i64⟩ := by kernel_rfl
theorem ti3 : zH1 Tryz.prog 3 = some ⟨1, false, [SC.i IntKind.i64 0], [], 0, 1, 1, IntKind.i64⟩ := by kernel_rfl
theorem ti4 : zH1 Tryz.prog 4 = some ⟨1, false, [SC.b false], [], 0, 1, 7, IntKind.i64⟩ := by kernel_rfl
theorem ti5 : zH1 Tryz.prog 5 = some ⟨1, false, [SC.i IntKind.u8 0], [], 0, 1, 1, IntKind.u8⟩ := by kernel_rfl
theorem ti9 : zH1 Tryz.prog 9 = some ⟨1, false, [SC.s []], [], 0, 1, 2, IntKind.i64⟩ := by kernel_rfl
theorem ti22 : zH1 Tryz.prog 22 = some ⟨1, false, [SC.v (Value.slice none 0 0)], [], 33, 8, 3, IntKind.i64⟩ := by kernel_rfl
theorem ti23 : zH1 Tryz.prog 23 = some ⟨1, false, [SC.i IntKind.u64 0], [], 0, 1, 1, IntKind.u64⟩ := by kernel_rfl
theorem ti25 : zH1 Tryz.prog 25 = some ⟨3, true, [SC.v (Value.slice none 0 0), SC.i IntKind.u64 0, SC.i IntKind.i64 0], [(0, 1, false), (1, 1, false), (2, 1, false)], 0, 1, 4, IntKind.i64⟩ := by kernel_rfl
theorem ti26 : zH1 Tryz.prog 26 = some ⟨1, false, [SC.i IntKind.u32 0], [], 0, 1, 1, IntKind.u32⟩ := by kernel_rfl
theorem ti28 : zH1 Tryz.prog 28 = some ⟨16, true, [SC.i IntKind.i64 0, SC.i IntKind.i64 0, SC.s [], SC.s [], SC.i IntKind.u32 0, SC.i IntKind.i64 0, SC.b false, SC.i IntKind.u64 0, SC.b false, SC.i IntKind.u64 0, SC.i IntKind.u64 0, SC.b false, SC.b false, SC.i IntKind.i64 0, SC.i IntKind.i64 0, SC.b false], [(0, 1, false), (1, 1, false), (2, 1, false), (3, 1, false), (4, 1, false), (5, 1, false), (6, 1, false), (7, 1, false), (8, 1, false), (9, 1, false), (10, 1, false), (11, 1, false), (12, 1, false), (13, 1, false), (14, 1, false), (15, 1, false)], 0, 1, 4, IntKind.i64⟩ := by kernel_rfl
theorem ti33 : zH1 Tryz.prog 33 = some ⟨8, true, [SC.s [], SC.i IntKind.u32 0, SC.s [], SC.i IntKind.i64 0, SC.i IntKind.u64 0, SC.i IntKind.i64 0, SC.b false, SC.b false], [(0, 1, false), (1, 1, false), (2, 1, false), (3, 1, false), (4, 1, false), (5, 1, false), (6, 1, false), (7, 1, false)], 0, 1, 4, IntKind.i64⟩ := by kernel_rfl
theorem ti35 : zH1 Tryz.prog 35 = some ⟨13, true, [SC.i IntKind.i64 0, SC.s [], SC.i IntKind.u32 0, SC.s [], SC.i IntKind.i64 0, SC.i IntKind.u64 0, SC.i IntKind.i64 0, SC.b false, SC.b false, SC.i IntKind.u64 0, SC.b false, SC.b false, SC.b false], [(0, 1, false), (1, 8, true), (9, 1, false), (10, 1, false), (11, 1, false), (12, 1, false)], 0, 1, 4, IntKind.i64⟩ := by kernel_rfl
theorem ti36 : zH1 Tryz.prog 36 = some ⟨1, false, [SC.v (Value.tuple { toList := [Value.agg [Value.slice none 0 0, Value.int IntKind.u64 0, Value.int IntKind.i64 0].toArray, Value.agg { toList := [Value.int IntKind.i64 0, Value.string { data := [].toArray }, Value.int IntKind.u32 0, Value.string { data := [].toArray }, Value.int IntKind.i64 0, Value.int IntKind.u64 0, Value.int IntKind.i64 0, Value.bool false, Value.bool false, Value.int IntKind.u64 0, Value.bool false, Value.bool false, Value.bool false] }] })], [], 0, 1, 0, IntKind.i64⟩ := by kernel_rfl
theorem ti51 : zH1 Tryz.prog 51 = some ⟨1, false, [SC.v (Value.tuple { toList := [Value.agg [Value.slice none 0 0, Value.int IntKind.u64 0, Value.int IntKind.i64 0].toArray, Value.bool false] })], [], 0, 1, 0, IntKind.i64⟩ := by kernel_rfl
theorem ti57 : zH1 Tryz.prog 57 = some ⟨1, false, [SC.v (Value.tuple [Value.int IntKind.i64 0, Value.bool false].toArray)], [], 0, 1, 0, IntKind.i64⟩ := by kernel_rfl
theorem ti64 : zH1 Tryz.prog 64 = some ⟨1, false, [SC.v (Value.pointer none)], [], 66, 23, 6, IntKind.i64⟩ := by kernel_rfl
theorem ti66 : zH1 Tryz.prog 66 = some ⟨23, true, [SC.v (Value.slice none 0 0), SC.i IntKind.u64 0, SC.i IntKind.i64 0, SC.i IntKind.i64 0, SC.i IntKind.i64 0, SC.i IntKind.i64 0, SC.s [], SC.s [], SC.i IntKind.u32 0, SC.i IntKind.i64 0, SC.b false, SC.i IntKind.u64 0, SC.b false, SC.i IntKind.u64 0, SC.i IntKind.u64 0, SC.b false, SC.b false, SC.i IntKind.i64 0, SC.i IntKind.i64 0, SC.b false, SC.i IntKind.i64 0, SC.i IntKind.i64 0, SC.b false], [(0, 3, true), (3, 1, false), (4, 16, true), (20, 1, false), (21, 1, false), (22, 1, false)], 0, 1, 4, IntKind.i64⟩ := by kernel_rfl
theorem ti73 : zH1 Tryz.prog 73 = some ⟨1, false, [SC.v (Value.pointer none)], [], 33, 8, 6, IntKind.i64⟩ := by kernel_rfl
theorem ti87 : zH1 Tryz.prog 87 = some ⟨1, false, [SC.v (Value.tuple { toList := [Value.string { data := [].toArray }, Value.bool false] })], [], 0, 1, 0, IntKind.i64⟩ := by kernel_rfl
theorem ti89 : zH1 Tryz.prog 89 = some ⟨1, false, [SC.v (Value.tuple [Value.int IntKind.u64 0, Value.bool false].toArray)], [], 0, 1, 0, IntKind.i64⟩ := by kernel_rfl
def lay0 := And.intro ti0 (And.intro ti2 (And.intro ti3 (And.intro ti4 (And.intro ti5 (And.intro ti9 (And.intro ti22 (And.intro ti23 (And.intro ti25 (And.intro ti26 (And.intro ti28 (And.intro ti33 (And.intro ti35 (And.intro ti36 (And.intro ti51 (And.intro ti57 (And.intro ti64 (And.intro ti66 (And.intro ti73 (ti87)))))))))))))))))))
def lay1 := ti89
def zM := And.intro lay0 (lay1)
set_option linter.defProp false
abbrev kp3 : List Nat := [0, 1, 2, 3, 4, 6, 8, 9, 10, 11, 12, 13, 14, 15, 16, 17, 18, 19, 35, 49, 69, 74]
abbrev kp7 : List Nat := [0, 1, 2, 3, 5, 7]
abbrev kp8 : List Nat := [0, 1, 2, 3, 4, 13]
abbrev kp9 : List Nat := [0, 1, 2, 3, 4, 9, 39]
abbrev kp10 : List Nat := [0, 1, 2]
abbrev kp11 : List Nat := [0, 1, 2, 3, 4, 6, 8, 9, 10, 11, 12, 13, 14, 26, 40, 47, 48, 58, 69, 80, 88, 96, 101, 111]
abbrev kp12 : List Nat := [0, 1, 2, 3, 4, 5, 6, 8, 9, 10, 11, 22, 48, 75, 76, 80, 84, 88, 94, 108, 114, 120, 124]
abbrev kp13 : List Nat := [0, 1, 2, 3, 4, 5, 26, 31, 44]
abbrev kp19 : List Nat := [0, 1, 2, 4, 5, 6, 7, 21, 28, 39]
abbrev kp20 : List Nat := [0, 1, 2, 3]
abbrev kp21 : List Nat := [0, 1, 2, 3, 39]
abbrev kp22 : List Nat := [0, 1, 2, 4, 5, 6, 21]
abbrev kp23 : List Nat := [0, 1, 2, 3, 4, 5, 7, 8, 10, 11, 12, 19, 23, 72, 76]
abbrev kp24 : List Nat := [0, 1, 2, 3, 4, 5, 6, 8, 9, 12, 13, 14, 15, 30, 34, 36, 55, 82, 89, 110]
abbrev kp25 : List Nat := [0, 1, 2, 3, 4, 5, 6, 8, 9, 12, 13, 14, 15, 16, 22, 40, 44, 50, 60, 70, 89]
abbrev kp26 : List Nat := [0, 1, 4, 5, 8, 12]
abbrev kp27 : List Nat := [0, 1, 2, 3, 4, 6, 7, 8, 9, 18, 23, 43]
abbrev kp28 : List Nat := [0, 1, 2, 3, 4, 5, 6, 7, 19]
abbrev kp34 : List Nat := [0, 2, 3, 4, 5, 10, 16, 113]
abbrev kp35 : List Nat := [0, 2, 3, 4, 5, 10, 31, 42, 64, 78, 79, 91, 117]
abbrev kp36 : List Nat := [0, 2, 3, 4, 5, 6, 7, 23, 35, 45, 63, 73, 78, 95]
abbrev kp37 : List Nat := [0, 2]
abbrev kp38 : List Nat := [0, 1, 4, 5, 13]
abbrev kp39 : List Nat := [0, 2]
abbrev kp40 : List Nat := [0, 2, 3, 4, 11, 15, 52]
abbrev kp41 : List Nat := [0, 2, 23]
abbrev kp44 : List Nat := [0, 1, 2, 4]
abbrev kp45 : List Nat := [0, 2, 3, 7, 19]
abbrev kp50 : List Nat := [0, 1, 2, 4, 5, 6, 7, 15]
abbrev kp58 : List Nat := [0, 2]
abbrev res3 : List ResultVar := [ResultVar.tmp 8]
theorem hres3 : Tryz.f3.results.toList = res3 := by kernel_rfl
abbrev res7 : List ResultVar := [ResultVar.tmp 0]
theorem hres7 : Tryz.f7.results.toList = res7 := by kernel_rfl
abbrev res8 : List ResultVar := [ResultVar.tmp 2]
theorem hres8 : Tryz.f8.results.toList = res8 := by kernel_rfl
abbrev res9 : List ResultVar := [ResultVar.tmp 2]
theorem hres9 : Tryz.f9.results.toList = res9 := by kernel_rfl
abbrev res10 : List ResultVar := [ResultVar.cell 2 25]
theorem hres10 : Tryz.f10.results.toList = res10 := by kernel_rfl
abbrev res11 : List ResultVar := [ResultVar.cell 8 25, ResultVar.cell 9 35]
theorem hres11 : Tryz.f11.results.toList = res11 := by kernel_rfl
abbrev res12 : List ResultVar := [ResultVar.cell 8 25, ResultVar.cell 9 35]
theorem hres12 : Tryz.f12.results.toList = res12 := by kernel_rfl
abbrev res13 : List ResultVar := [ResultVar.tmp 4]
theorem hres13 : Tryz.f13.results.toList = res13 := by kernel_rfl
abbrev res19 : List ResultVar := [ResultVar.cell 4 25]
theorem hres19 : Tryz.f19.results.toList = res19 := by kernel_rfl
abbrev res20 : List ResultVar := [ResultVar.tmp 2]
theorem hres20 : Tryz.f20.results.toList = res20 := by kernel_rfl
abbrev res21 : List ResultVar := [ResultVar.tmp 2]
theorem hres21 : Tryz.f21.results.toList = res21 := by kernel_rfl
abbrev res22 : List ResultVar := [ResultVar.tmp 4, ResultVar.tmp 5]
theorem hres22 : Tryz.f22.results.toList = res22 := by kernel_rfl
abbrev res23 : List ResultVar := [ResultVar.cell 10 25, ResultVar.cell 11 35]
theorem hres23 : Tryz.f23.results.toList = res23 := by kernel_rfl
abbrev res24 : List ResultVar := [ResultVar.cell 12 25, ResultVar.cell 13 35]
theorem hres24 : Tryz.f24.results.toList = res24 := by kernel_rfl
abbrev res25 : List ResultVar := [ResultVar.cell 12 25, ResultVar.cell 13 35]
theorem hres25 : Tryz.f25.results.toList = res25 := by kernel_rfl
abbrev res26 : List ResultVar := [ResultVar.tmp 4]
theorem hres26 : Tryz.f26.results.toList = res26 := by kernel_rfl
abbrev res27 : List ResultVar := [ResultVar.cell 8 25, ResultVar.cell 9 35]
theorem hres27 : Tryz.f27.results.toList = res27 := by kernel_rfl
abbrev res28 : List ResultVar := [ResultVar.cell 4 25]
theorem hres28 : Tryz.f28.results.toList = res28 := by kernel_rfl
abbrev res34 : List ResultVar := [ResultVar.cell 2 35]
theorem hres34 : Tryz.f34.results.toList = res34 := by kernel_rfl
abbrev res35 : List ResultVar := [ResultVar.cell 2 35]
theorem hres35 : Tryz.f35.results.toList = res35 := by kernel_rfl
abbrev res36 : List ResultVar := [ResultVar.cell 2 35]
theorem hres36 : Tryz.f36.results.toList = res36 := by kernel_rfl
abbrev res37 : List ResultVar := [ResultVar.cell 2 35]
theorem hres37 : Tryz.f37.results.toList = res37 := by kernel_rfl
abbrev res38 : List ResultVar := [ResultVar.tmp 4]
theorem hres38 : Tryz.f38.results.toList = res38 := by kernel_rfl
abbrev res39 : List ResultVar := [ResultVar.tmp 2]
theorem hres39 : Tryz.f39.results.toList = res39 := by kernel_rfl
abbrev res40 : List ResultVar := [ResultVar.cell 2 35]
theorem hres40 : Tryz.f40.results.toList = res40 := by kernel_rfl
abbrev res41 : List ResultVar := [ResultVar.cell 2 35]
theorem hres41 : Tryz.f41.results.toList = res41 := by kernel_rfl
abbrev res44 : List ResultVar := [ResultVar.tmp 4]
theorem hres44 : Tryz.f44.results.toList = res44 := by kernel_rfl
abbrev res45 : List ResultVar := [ResultVar.tmp 2]
theorem hres45 : Tryz.f45.results.toList = res45 := by kernel_rfl
abbrev res50 : List ResultVar := [ResultVar.cell 4 25, ResultVar.tmp 5]
theorem hres50 : Tryz.f50.results.toList = res50 := by kernel_rfl
abbrev res58 : List ResultVar := [ResultVar.tmp 2]
theorem hres58 : Tryz.f58.results.toList = res58 := by kernel_rfl
abbrev rs3_7 : List (Nat × Nat) := [(0, 0), (0, 0), (0, 1), (0, 1), (0, 1), (1, 1), (2, 2), (2, 2), (2, 3), (0, 2), (0, 2), (2, 2), (3, 3)]
abbrev rs8_5 : List (Nat × Nat) := [(0, 0), (0, 0), (0, 0), (0, 0), (0, 0), (0, 0), (0, 0), (0, 0), (0, 0), (0, 0), (0, 0), (0, 0), (0, 0), (0, 0), (0, 0), (0, 0), (0, 0), (0, 0), (0, 0), (0, 0), (0, 0)]
abbrev rs9_5 : List (Nat × Nat) := [(0, 0), (0, 0), (0, 0), (0, 0), (0, 0), (0, 0), (0, 0), (0, 0), (0, 0), (0, 0), (0, 0), (0, 0), (0, 0), (0, 0), (0, 0), (0, 0), (0, 0), (0, 0), (0, 0), (0, 0), (0, 0), (0, 0)]
abbrev rs11_28 : List (Nat × Nat) := [(0, 0), (0, 1), (0, 1), (0, 0), (1, 1)]
abbrev rs11_30 : List (Nat × Nat) := [(0, 0), (0, 0), (0, 0), (0, 2), (0, 2), (1, 1), (2, 2)]
abbrev rs12_7 : List (Nat × Nat) := [(0, 0), (0, 1), (0, 0), (0, 0), (0, 0), (0, 0), (0, 0), (0, 0), (0, 0), (0, 0), (0, 0), (0, 0), (0, 1), (0, 0), (0, 0), (0, 0), (1, 1), (1, 1), (1, 1)]
abbrev rs12_19 : List (Nat × Nat) := [(0, 0), (0, 0), (0, 0), (0, 0), (0, 0), (0, 0), (0, 0), (0, 0), (0, 0)]
abbrev rs12_29 : List (Nat × Nat) := [(0, 0), (0, 0), (0, 0), (0, 0), (0, 1), (0, 0), (1, 1)]
abbrev rs13_6 : List (Nat × Nat) := [(0, 0), (0, 0), (0, 0), (0, 0), (0, 0), (0, 0), (0, 0), (0, 0), (0, 0), (0, 0), (0, 0)]
abbrev rs19_10 : List (Nat × Nat) := [(0, 0), (0, 0), (0, 0), (0, 0), (0, 0), (0, 0), (0, 0), (0, 0), (0, 0), (1, 1), (1, 1)]
abbrev rs22_4 : List (Nat × Nat) := [(0, 0), (0, 0), (0, 0), (0, 0), (0, 0), (0, 0), (0, 0), (0, 0), (0, 0), (0, 0), (0, 0), (0, 0), (0, 0), (0, 0), (0, 0), (0, 0), (0, 0), (0, 0)]
abbrev rs23_5 : List (Nat × Nat) := [(0, 0), (0, 0), (0, 0), (0, 0), (0, 0), (0, 0), (0, 0), (0, 0), (0, 0), (0, 0)]
abbrev rs23_6 : List (Nat × Nat) := [(0, 0), (0, 0), (0, 0), (0, 2), (0, 2), (1, 1), (2, 2)]
abbrev rs23_15 : List (Nat × Nat) := [(0, 0), (0, 0), (0, 0), (0, 2), (1, 1), (2, 2)]
abbrev rs24_10 : List (Nat × Nat) := [(0, 0), (0, 0), (0, 0), (0, 0), (0, 0), (0, 0), (0, 0), (0, 0), (0, 0), (0, 0), (0, 0), (0, 0), (0, 0), (0, 0)]
abbrev rs24_22 : List (Nat × Nat) := [(0, 0), (0, 0), (0, 0), (0, 2), (0, 2), (1, 1), (2, 2)]
abbrev rs25_13 : List (Nat × Nat) := [(0, 0), (0, 0), (0, 0), (0, 0), (0, 0), (0, 0), (0, 0), (0, 0)]
abbrev rs25_22 : List (Nat × Nat) := [(0, 0), (0, 0), (0, 0), (0, 2), (0, 2), (0, 2), (1, 1), (2, 2)]
abbrev rs27_12 : List (Nat × Nat) := [(0, 0), (0, 0), (0, 0), (0, 2), (0, 2), (1, 1), (2, 2)]
abbrev rs28_5 : List (Nat × Nat) := [(0, 0), (0, 0), (0, 0), (0, 0), (0, 0), (0, 0), (0, 1), (0, 1), (1, 1), (0, 2), (2, 2), (3, 3), (3, 3)]
abbrev rs34_4 : List (Nat × Nat) := [(0, 0), (0, 0), (0, 0), (0, 0), (0, 0), (0, 0), (0, 0), (0, 0), (0, 0), (0, 0), (0, 0), (0, 0), (0, 0), (0, 0), (0, 0), (1, 1), (1, 1), (1, 1), (1, 1)]
abbrev rs34_6 : List (Nat × Nat) := [(0, 0), (0, 0), (0, 0), (0, 0), (0, 0), (0, 0), (0, 0), (0, 0), (0, 0), (0, 0), (0, 0), (0, 0), (0, 0), (0, 0), (0, 0), (0, 0), (0, 0), (0, 0), (0, 0), (0, 0), (0, 0), (0, 0), (0, 0), (0, 0), (0, 0), (0, 0), (0, 0), (0, 0), (0, 0), (0, 0), (0, 0)]
abbrev rs34_7 : List (Nat × Nat) := [(0, 0), (0, 0), (0, 0), (0, 0), (0, 0), (0, 0), (0, 0), (0, 0), (0, 0), (0, 0), (0, 0), (0, 0), (0, 0), (0, 0), (0, 0), (0, 0), (0, 0), (0, 0), (0, 0), (0, 0), (0, 0), (0, 0), (0, 0), (0, 0), (0, 0)]
abbrev rs35_9 : List (Nat × Nat) := [(0, 0), (0, 0), (0, 0), (0, 0), (0, 0), (0, 0), (0, 0), (0, 0), (0, 0), (0, 0), (0, 0), (0, 0), (0, 0)]
abbrev rs35_12 : List (Nat × Nat) := [(0, 0), (0, 0), (0, 0), (0, 0), (0, 0), (0, 0), (0, 0), (0, 0), (0, 0), (0, 0), (0, 0), (0, 0), (0, 0)]
abbrev rs35_21 : List (Nat × Nat) := [(0, 0), (0, 0), (0, 0), (0, 0), (0, 0), (0, 0), (0, 0), (0, 0), (0, 0), (0, 0), (0, 0), (0, 0)]
abbrev rs36_2 : List (Nat × Nat) := [(0, 0), (0, 0), (0, 0), (0, 0), (0, 0), (0, 0), (0, 0), (0, 0), (0, 0), (0, 0), (0, 0), (0, 0)]
abbrev rs36_17 : List (Nat × Nat) := [(0, 0), (0, 0), (0, 0), (0, 0), (0, 0), (0, 0), (0, 0), (0, 0), (0, 0), (0, 0), (0, 0), (0, 0)]
abbrev rs39_1 : List (Nat × Nat) := [(0, 0), (0, 0), (0, 0), (0, 0), (0, 0), (0, 0), (0, 0), (0, 0), (0, 0), (0, 0), (0, 0)]
abbrev rs40_6 : List (Nat × Nat) := [(0, 1), (0, 0), (0, 0), (0, 0), (0, 0), (0, 0), (0, 0), (0, 0), (0, 0), (0, 0), (0, 0), (0, 0), (0, 0), (0, 0), (0, 0), (0, 0), (1, 1), (1, 1), (1, 1), (1, 1)]
abbrev rs41_2 : List (Nat × Nat) := [(0, 0), (0, 0), (0, 0), (0, 0), (0, 0), (0, 0), (0, 0), (0, 0), (0, 0), (0, 0)]
abbrev rs50_4 : List (Nat × Nat) := [(0, 0), (0, 0), (0, 0), (0, 0), (0, 0), (0, 0), (0, 1), (0, 1), (0, 1), (0, 1), (0, 1), (1, 1), (2, 2), (2, 2)]
abbrev rs58_1 : List (Nat × Nat) := [(0, 0), (0, 0), (0, 0), (0, 0), (0, 0), (0, 0), (0, 0), (0, 0), (0, 0), (0, 0), (0, 0), (0, 0), (0, 0), (0, 0), (0, 0), (0, 0), (0, 0), (0, 0), (0, 0)]
end Go.Proofs.YtfpeholdlkfmoaaGreatDoor
