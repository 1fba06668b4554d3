/- What the program says of its types, and which slots of a function live across its regions (printed by gen_lay.py). -/
import Derived.Test.YtehfcboiimdkbaaGreatDoorBL
import Derived.Test.YtehfcboiimdkbaaGreatDoorProg
namespace Go.Proofs.YtehfcboiimdkbaaGreatDoor
set_option linter.unusedSimpArgs false
set_option linter.unusedVariables false
open Go.RowKit
set_option linter.defProp false
theorem ti0 : tiOf Tryz.prog 0 = some ⟨1, false, [SC.v (Value.tuple [].toArray)], [], 0, 1, 0, IntKind.i64⟩ := by kernel_rfl
theorem ti2 : tiOf Tryz.prog 2 = some ⟨1, false, [SC.i IntKind.i64 0], [], 0, 1, 1, IntKind.i64⟩ := by kernel_rfl
theorem ti3 : tiOf Tryz.prog 3 = some ⟨1, false, [SC.i IntKind.i64 0], [], 0, 1, 1, IntKind.i64⟩ := by kernel_rfl
theorem ti4 : tiOf Tryz.prog 4 = some ⟨1, false, [SC.b false], [], 0, 1, 7, IntKind.i64⟩ := by kernel_rfl
theorem ti5 : tiOf Tryz.prog 5 = some ⟨1, false, [SC.i IntKind.u8 0], [], 0, 1, 1, IntKind.u8⟩ := by kernel_rfl
theorem ti9 : tiOf Tryz.prog 9 = some ⟨1, false, [SC.s []], [], 0, 1, 2, IntKind.i64⟩ := by kernel_rfl
theorem ti20 : tiOf Tryz.prog 20 = some ⟨1, false, [SC.v Value.nilIface], [], 0, 1, 8, IntKind.i64⟩ := by kernel_rfl
theorem ti23 : tiOf Tryz.prog 23 = some ⟨1, false, [SC.v (Value.pointer none)], [], 47, 4, 6, IntKind.i64⟩ := by kernel_rfl
theorem ti27 : tiOf Tryz.prog 27 = some ⟨1, false, [SC.v (Value.slice none 0 0)], [], 54, 16, 3, IntKind.i64⟩ := by kernel_rfl
theorem ti28 : tiOf Tryz.prog 28 = some ⟨1, false, [SC.v (Value.slice none 0 0)], [], 9, 1, 3, IntKind.i64⟩ := by kernel_rfl
theorem ti30 : tiOf Tryz.prog 30 = some ⟨11, true, [SC.i IntKind.i64 0, SC.v (Value.slice none 0 0), SC.b false, SC.b false, SC.s [], SC.s [], SC.i IntKind.i64 0, SC.b false, SC.s [], SC.v (Value.slice none 0 0), SC.s []], [(0, 1, false), (1, 1, false), (2, 1, false), (3, 1, false), (4, 1, false), (5, 1, false), (6, 1, false), (7, 1, false), (8, 1, false), (9, 1, false), (10, 1, false)], 0, 1, 4, IntKind.i64⟩ := by kernel_rfl
theorem ti31 : tiOf Tryz.prog 31 = some ⟨1, false, [SC.v (Value.tuple { toList := [Value.agg { toList := [Value.int IntKind.i64 0, Value.slice none 0 0, Value.bool false, Value.bool false, Value.string { data := [].toArray }, Value.string { data := [].toArray }, Value.int IntKind.i64 0, Value.bool false, Value.string { data := [].toArray }, Value.slice none 0 0, Value.string { data := [].toArray }] }, Value.bool false] })], [], 0, 1, 0, IntKind.i64⟩ := by kernel_rfl
theorem ti33 : tiOf Tryz.prog 33 = some ⟨1, false, [SC.v (Value.slice none 0 0)], [], 5, 1, 3, IntKind.i64⟩ := by kernel_rfl
theorem ti37 : tiOf Tryz.prog 37 = some ⟨1, false, [SC.v (Value.slice none 0 0)], [], 3, 1, 3, IntKind.i64⟩ := by kernel_rfl
theorem ti38 : tiOf Tryz.prog 38 = some ⟨1, false, [SC.v (Value.slice none 0 0)], [], 30, 11, 3, IntKind.i64⟩ := by kernel_rfl
theorem ti40 : tiOf Tryz.prog 40 = some ⟨1, false, [SC.v (Value.tuple [Value.int IntKind.i64 0, Value.int IntKind.i64 0].toArray)], [], 0, 1, 0, IntKind.i64⟩ := by kernel_rfl
theorem ti47 : tiOf Tryz.prog 47 = some ⟨4, true, [SC.s [], SC.s [], SC.i IntKind.i64 0, SC.b false], [(0, 1, false), (1, 1, false), (2, 1, false), (3, 1, false)], 0, 1, 4, IntKind.i64⟩ := by kernel_rfl
theorem ti48 : tiOf Tryz.prog 48 = some ⟨1, false, [SC.v (Value.tuple { toList := [Value.agg { toList := [Value.int IntKind.i64 0, Value.slice none 0 0, Value.bool false, Value.bool false, Value.string { data := [].toArray }, Value.string { data := [].toArray }, Value.int IntKind.i64 0, Value.bool false, Value.string { data := [].toArray }, Value.slice none 0 0, Value.string { data := [].toArray }] }, Value.int IntKind.i64 0] })], [], 0, 1, 0, IntKind.i64⟩ := by kernel_rfl
theorem ti51 : tiOf Tryz.prog 51 = some ⟨1, false, [SC.i IntKind.u32 0], [], 0, 1, 1, IntKind.u32⟩ := by kernel_rfl
theorem ti52 : tiOf Tryz.prog 52 = some ⟨1, false, [SC.i IntKind.u64 0], [], 0, 1, 1, IntKind.u64⟩ := by kernel_rfl
theorem ti54 : tiOf Tryz.prog 54 = some ⟨16, true, [SC.i IntKind.i64 0, SC.i IntKind.i64 0, SC.s [], SC.s [], SC.i IntKind.u32 0, SC.i IntKind.i64 0, SC.b false, SC.i IntKind.u64 0, SC.b false, SC.i IntKind.u64 0, SC.i IntKind.u64 0, SC.b false, SC.b false, SC.i IntKind.i64 0, SC.i IntKind.i64 0, SC.b false], [(0, 1, false), (1, 1, false), (2, 1, false), (3, 1, false), (4, 1, false), (5, 1, false), (6, 1, false), (7, 1, false), (8, 1, false), (9, 1, false), (10, 1, false), (11, 1, false), (12, 1, false), (13, 1, false), (14, 1, false), (15, 1, false)], 0, 1, 4, IntKind.i64⟩ := by kernel_rfl
theorem ti55 : tiOf Tryz.prog 55 = some ⟨1, false, [SC.v (Value.tuple { toList := [Value.string { data := [].toArray }, Value.int IntKind.i64 0] })], [], 0, 1, 0, IntKind.i64⟩ := by kernel_rfl
theorem ti57 : tiOf Tryz.prog 57 = some ⟨1, false, [SC.v (Value.tuple { toList := [Value.string { data := [].toArray }, Value.string { data := [].toArray }, Value.bool false] })], [], 0, 1, 0, IntKind.i64⟩ := by kernel_rfl
theorem ti70 : tiOf Tryz.prog 70 = some ⟨1, false, [SC.v (Value.tuple { toList := [Value.agg { toList := [Value.int IntKind.i64 0, Value.int IntKind.i64 0, Value.string { data := [].toArray }, Value.string { data := [].toArray }, Value.int IntKind.u32 0, Value.int IntKind.i64 0, Value.bool false, Value.int IntKind.u64 0, Value.bool false, Value.int IntKind.u64 0, Value.int IntKind.u64 0, Value.bool false, Value.bool false, Value.int IntKind.i64 0, Value.int IntKind.i64 0, Value.bool false] }, Value.string { data := [].toArray }] })], [], 0, 1, 0, IntKind.i64⟩ := by kernel_rfl
theorem ti72 : tiOf Tryz.prog 72 = some ⟨1, false, [SC.v (Value.tuple { toList := [Value.agg { toList := [Value.int IntKind.i64 0, Value.slice none 0 0, Value.bool false, Value.bool false, Value.string { data := [].toArray }, Value.string { data := [].toArray }, Value.int IntKind.i64 0, Value.bool false, Value.string { data := [].toArray }, Value.slice none 0 0, Value.string { data := [].toArray }] }, Value.int IntKind.i64 0, Value.bool false] })], [], 0, 1, 0, IntKind.i64⟩ := by kernel_rfl
theorem ti75 : tiOf Tryz.prog 75 = some ⟨1, false, [SC.v (Value.pointer none)], [], 77, 5, 6, IntKind.i64⟩ := by kernel_rfl
theorem ti77 : tiOf Tryz.prog 77 = some ⟨5, true, [SC.s [], SC.v (Value.slice none 0 0), SC.s [], SC.i IntKind.i64 0, SC.b false], [(0, 1, false), (1, 1, false), (2, 1, false), (3, 1, false), (4, 1, false)], 0, 1, 4, IntKind.i64⟩ := by kernel_rfl
theorem ti85 : tiOf Tryz.prog 85 = some ⟨1, false, [SC.v (Value.tuple [Value.int IntKind.u64 0, Value.bool false].toArray)], [], 0, 1, 0, IntKind.i64⟩ := by kernel_rfl
theorem ti87 : tiOf Tryz.prog 87 = some ⟨1, false, [SC.v (Value.tuple { toList := [Value.string { data := [].toArray }, Value.bool false, Value.bool false] })], [], 0, 1, 0, IntKind.i64⟩ := by kernel_rfl
theorem ti89 : tiOf Tryz.prog 89 = some ⟨1, false, [SC.v (Value.pointer none)], [], 54, 16, 6, IntKind.i64⟩ := by kernel_rfl
theorem ti90 : tiOf Tryz.prog 90 = some ⟨1, false, [SC.v (Value.tuple { toList := [Value.string { data := [].toArray }, Value.bool false] })], [], 0, 1, 0, IntKind.i64⟩ := by kernel_rfl
theorem ti94 : tiOf Tryz.prog 94 = some ⟨1, false, [SC.s []], [], 0, 1, 2, IntKind.i64⟩ := by kernel_rfl
theorem ti97 : tiOf Tryz.prog 97 = some ⟨1, false, [SC.i IntKind.u64 0], [], 0, 1, 1, IntKind.u64⟩ := by kernel_rfl
theorem ti101 : tiOf Tryz.prog 101 = some ⟨1, false, [SC.v Value.nilIface], [], 0, 1, 8, IntKind.i64⟩ := by kernel_rfl
theorem ti105 : tiOf Tryz.prog 105 = some ⟨1, false, [SC.v (Value.pointer none)], [], 107, 2, 6, IntKind.i64⟩ := by kernel_rfl
theorem ti107 : tiOf Tryz.prog 107 = some ⟨2, true, [SC.v (Value.pointer none), SC.v (Value.slice none 0 0)], [(0, 1, false), (1, 1, false)], 0, 1, 4, IntKind.i64⟩ := by kernel_rfl
theorem ti114 : tiOf Tryz.prog 114 = some ⟨1, false, [SC.v (Value.tuple [Value.int IntKind.i64 0, Value.bool false].toArray)], [], 0, 1, 0, IntKind.i64⟩ := by kernel_rfl
def lay0 := And.intro ti0 (And.intro ti2 (And.intro ti3 (And.intro ti4 (And.intro ti5 (And.intro ti9 (And.intro ti20 (And.intro ti23 (And.intro ti27 (And.intro ti28 (And.intro ti30 (And.intro ti31 (And.intro ti33 (And.intro ti37 (And.intro ti38 (And.intro ti40 (And.intro ti47 (And.intro ti48 (And.intro ti51 (ti52)))))))))))))))))))
def lay1 := And.intro ti54 (And.intro ti55 (And.intro ti57 (And.intro ti70 (And.intro ti72 (And.intro ti75 (And.intro ti77 (And.intro ti85 (And.intro ti87 (And.intro ti89 (And.intro ti90 (And.intro ti94 (And.intro ti97 (And.intro ti101 (And.intro ti105 (And.intro ti107 (ti114))))))))))))))))
def zM := And.intro lay0 (lay1)
set_option linter.defProp false
abbrev kp5 : List Nat := [0, 1, 4, 5, 6, 7, 8, 9, 10, 11, 12, 13, 14, 15, 16, 17, 18, 19, 20, 21, 23, 28, 42, 49, 58, 66, 72, 80, 102, 106, 114, 118, 126]
abbrev kp9 : List Nat := [0, 1, 3, 4, 5, 6, 7, 8, 16]
abbrev kp10 : List Nat := [0]
abbrev kp11 : List Nat := [0, 1, 4, 5, 6, 10]
abbrev kp13 : List Nat := [0, 2, 3, 4, 5, 6, 18, 30, 61]
abbrev kp14 : List Nat := [0, 1]
abbrev kp15 : List Nat := [0, 1, 4, 5]
abbrev kp16 : List Nat := [0, 2]
abbrev kp17 : List Nat := [0, 1, 2, 3, 4, 5, 6, 12, 13, 14, 15, 16, 17, 18, 19, 20, 21, 22, 23, 24, 25, 26, 27, 28, 29, 30, 31, 32, 33, 34, 35, 36, 37, 38, 39, 40, 41, 42, 43, 44, 45, 46, 47, 48, 49, 50, 51, 52, 53, 54, 55, 56, 57, 58, 59, 60, 61, 62, 63, 64, 65, 66, 67, 68, 69, 70, 71, 72, 73, 74, 75, 76, 77, 78, 79, 80, 81, 82, 83, 84, 85, 90, 103]
abbrev kp18 : List Nat := [0, 2, 3]
abbrev kp19 : List Nat := [0]
abbrev kp20 : List Nat := [0, 2, 3, 4, 6, 38]
abbrev kp21 : List Nat := [0, 1, 4, 5, 10, 14, 25]
abbrev kp22 : List Nat := [0, 2, 3, 4, 6, 14]
abbrev kp26 : List Nat := [0, 2, 3, 4, 5, 6, 7, 9, 10, 11, 12, 22, 31, 41, 49, 61, 67]
abbrev kp27 : List Nat := [0, 2, 3, 4, 5, 6, 7, 8, 9, 19, 28, 46, 71]
abbrev kp35 : List Nat := [0, 1, 4]
abbrev kp37 : List Nat := [0, 2, 3, 5, 6, 9, 12, 15, 18]
abbrev kp38 : List Nat := [0, 1, 4, 5, 6, 7, 8, 9, 10, 11, 12, 13, 14, 15, 16, 17, 25, 40, 43, 57, 74, 82, 85, 94, 97, 104, 109, 119]
abbrev kp39 : List Nat := [0, 2]
abbrev kp40 : List Nat := [0, 2, 3, 8, 9, 16]
abbrev kp49 : List Nat := [0, 1, 2, 6, 7, 8, 9, 11, 12, 13, 14, 15, 18, 24, 29]
abbrev kp50 : List Nat := [0, 2, 3, 4, 5, 6, 7, 8, 9, 23, 25, 26, 27, 34, 43, 57]
abbrev kp53 : List Nat := [0, 1, 3, 4, 5, 7, 9, 10]
abbrev kp54 : List Nat := [0, 2, 3, 4, 5, 7, 8, 18, 39, 40, 41, 42]
abbrev kp55 : List Nat := [0, 2, 3, 4, 5, 6, 7, 8, 9, 10, 11, 12, 13, 14, 22, 81, 100, 121, 128, 152]
abbrev kp56 : List Nat := [0, 2, 3, 4, 5, 6, 7, 11, 12, 44, 58, 87, 99, 107, 118, 123, 128]
abbrev kp67 : List Nat := [0, 1, 2, 6, 7, 8, 22, 38, 48, 58, 75, 80, 93, 103, 121]
abbrev kp69 : List Nat := [0, 1, 4]
abbrev kp73 : List Nat := [0, 1, 2]
abbrev kp74 : List Nat := [0, 1, 4, 5, 6]
abbrev kp75 : List Nat := [0, 1, 5]
abbrev kp76 : List Nat := [0, 1, 4, 5, 7, 8, 9]
abbrev kp78 : List Nat := [0, 2, 20]
abbrev kp79 : List Nat := [0, 2, 3, 4, 5]
abbrev kp81 : List Nat := [0]
abbrev kp82 : List Nat := [0, 1, 4]
abbrev kp83 : List Nat := [0, 2]
abbrev kp90 : List Nat := [0, 1, 4, 5, 6, 9, 14]
abbrev kp91 : List Nat := [0, 2, 3, 4, 5]
abbrev res5 : List ResultVar := [ResultVar.tmp 4]
abbrev res9 : List ResultVar := [ResultVar.tmp 0]
theorem hres9 : Tryz.f9.results.toList = res9 := by kernel_rfl
abbrev res10 : List ResultVar := [ResultVar.tmp 0]
theorem hres10 : Tryz.f10.results.toList = res10 := by kernel_rfl
abbrev res11 : List ResultVar := [ResultVar.tmp 4]
theorem hres11 : Tryz.f11.results.toList = res11 := by kernel_rfl
abbrev res13 : List ResultVar := [ResultVar.cell 2 30, ResultVar.tmp 3]
theorem hres13 : Tryz.f13.results.toList = res13 := by kernel_rfl
abbrev res14 : List ResultVar := []
theorem hres14 : Tryz.f14.results.toList = res14 := by kernel_rfl
abbrev res15 : List ResultVar := [ResultVar.tmp 4]
theorem hres15 : Tryz.f15.results.toList = res15 := by kernel_rfl
abbrev res16 : List ResultVar := [ResultVar.tmp 2]
theorem hres16 : Tryz.f16.results.toList = res16 := by kernel_rfl
abbrev res17 : List ResultVar := [ResultVar.tmp 4]
theorem hres17 : Tryz.f17.results.toList = res17 := by kernel_rfl
abbrev res18 : List ResultVar := [ResultVar.tmp 2, ResultVar.tmp 3]
theorem hres18 : Tryz.f18.results.toList = res18 := by kernel_rfl
abbrev res19 : List ResultVar := []
theorem hres19 : Tryz.f19.results.toList = res19 := by kernel_rfl
abbrev res20 : List ResultVar := [ResultVar.cell 2 30, ResultVar.tmp 3]
theorem hres20 : Tryz.f20.results.toList = res20 := by kernel_rfl
abbrev res21 : List ResultVar := [ResultVar.tmp 4]
theorem hres21 : Tryz.f21.results.toList = res21 := by kernel_rfl
abbrev res22 : List ResultVar := [ResultVar.tmp 2, ResultVar.tmp 3]
theorem hres22 : Tryz.f22.results.toList = res22 := by kernel_rfl
abbrev res26 : List ResultVar := [ResultVar.cell 2 30, ResultVar.tmp 3]
theorem hres26 : Tryz.f26.results.toList = res26 := by kernel_rfl
abbrev res27 : List ResultVar := [ResultVar.cell 2 30, ResultVar.tmp 3]
theorem hres27 : Tryz.f27.results.toList = res27 := by kernel_rfl
abbrev res35 : List ResultVar := [ResultVar.cell 4 30]
theorem hres35 : Tryz.f35.results.toList = res35 := by kernel_rfl
abbrev res37 : List ResultVar := [ResultVar.cell 2 54, ResultVar.tmp 3]
theorem hres37 : Tryz.f37.results.toList = res37 := by kernel_rfl
abbrev res38 : List ResultVar := [ResultVar.cell 4 30, ResultVar.tmp 5, ResultVar.tmp 6]
theorem hres38 : Tryz.f38.results.toList = res38 := by kernel_rfl
abbrev res39 : List ResultVar := [ResultVar.cell 2 30]
theorem hres39 : Tryz.f39.results.toList = res39 := by kernel_rfl
abbrev res40 : List ResultVar := [ResultVar.cell 2 30, ResultVar.cell 3 4]
theorem hres40 : Tryz.f40.results.toList = res40 := by kernel_rfl
abbrev res49 : List ResultVar := [ResultVar.tmp 6, ResultVar.tmp 7, ResultVar.tmp 8]
theorem hres49 : Tryz.f49.results.toList = res49 := by kernel_rfl
abbrev res50 : List ResultVar := [ResultVar.tmp 2, ResultVar.tmp 3]
theorem hres50 : Tryz.f50.results.toList = res50 := by kernel_rfl
abbrev res53 : List ResultVar := []
theorem hres53 : Tryz.f53.results.toList = res53 := by kernel_rfl
abbrev res54 : List ResultVar := [ResultVar.cell 2 30]
theorem hres54 : Tryz.f54.results.toList = res54 := by kernel_rfl
abbrev res55 : List ResultVar := [ResultVar.cell 2 30, ResultVar.tmp 3]
theorem hres55 : Tryz.f55.results.toList = res55 := by kernel_rfl
abbrev res56 : List ResultVar := [ResultVar.cell 2 30]
theorem hres56 : Tryz.f56.results.toList = res56 := by kernel_rfl
abbrev res67 : List ResultVar := [ResultVar.tmp 6]
theorem hres67 : Tryz.f67.results.toList = res67 := by kernel_rfl
abbrev res69 : List ResultVar := [ResultVar.tmp 4]
theorem hres69 : Tryz.f69.results.toList = res69 := by kernel_rfl
abbrev res73 : List ResultVar := []
theorem hres73 : Tryz.f73.results.toList = res73 := by kernel_rfl
abbrev res74 : List ResultVar := [ResultVar.tmp 4]
theorem hres74 : Tryz.f74.results.toList = res74 := by kernel_rfl
abbrev res75 : List ResultVar := []
theorem hres75 : Tryz.f75.results.toList = res75 := by kernel_rfl
abbrev res76 : List ResultVar := [ResultVar.cell 4 30]
theorem hres76 : Tryz.f76.results.toList = res76 := by kernel_rfl
abbrev res78 : List ResultVar := []
theorem hres78 : Tryz.f78.results.toList = res78 := by kernel_rfl
abbrev res79 : List ResultVar := [ResultVar.tmp 2, ResultVar.tmp 3]
theorem hres79 : Tryz.f79.results.toList = res79 := by kernel_rfl
abbrev res81 : List ResultVar := [ResultVar.tmp 0]
theorem hres81 : Tryz.f81.results.toList = res81 := by kernel_rfl
abbrev res82 : List ResultVar := [ResultVar.tmp 4]
theorem hres82 : Tryz.f82.results.toList = res82 := by kernel_rfl
abbrev res83 : List ResultVar := [ResultVar.tmp 2]
theorem hres83 : Tryz.f83.results.toList = res83 := by kernel_rfl
abbrev res90 : List ResultVar := [ResultVar.tmp 4]
theorem hres90 : Tryz.f90.results.toList = res90 := by kernel_rfl
abbrev res91 : List ResultVar := [ResultVar.tmp 2, ResultVar.tmp 3]
theorem hres91 : Tryz.f91.results.toList = res91 := by kernel_rfl
abbrev rs5_39 : List (Nat × Nat) := [(0, 0), (0, 0), (0, 0), (0, 0), (0, 0), (0, 0), (0, 0)]
abbrev rs11_7 : List (Nat × Nat) := [(0, 0), (0, 0), (0, 0), (0, 0), (0, 0), (0, 0), (0, 0), (0, 0), (0, 0), (0, 0), (0, 0)]
abbrev rs13_6 : List (Nat × Nat) := [(0, 0), (0, 0), (0, 0), (0, 0), (0, 0), (0, 0), (0, 0), (0, 0), (0, 0), (0, 0), (0, 0)]
abbrev rs13_7 : List (Nat × Nat) := [(0, 0), (0, 1), (0, 0), (0, 0), (0, 0), (0, 0), (0, 0), (0, 0), (0, 0), (0, 0), (0, 1), (0, 1), (0, 1), (0, 1), (0, 0), (0, 0), (0, 0), (1, 1), (1, 1), (1, 1)]
abbrev rs17_7 : List (Nat × Nat) := [(0, 0), (0, 0), (0, 0), (0, 0), (0, 0), (0, 0), (0, 0), (0, 0), (0, 0), (0, 0), (0, 0)]
abbrev rs18_1 : List (Nat × Nat) := [(0, 0), (0, 0), (0, 0), (0, 0), (0, 0), (0, 0), (0, 0), (0, 0), (0, 0), (0, 0), (0, 0), (0, 0)]
abbrev rs21_6 : List (Nat × Nat) := [(0, 0), (0, 0), (0, 0), (0, 0), (0, 0), (0, 0), (0, 0), (0, 0), (0, 0)]
abbrev rs27_8 : List (Nat × Nat) := [(0, 0), (0, 0), (0, 1), (0, 1), (0, 1), (1, 1), (1, 1), (1, 1)]
abbrev rs27_11 : List (Nat × Nat) := [(0, 0), (0, 1), (0, 0), (0, 0), (0, 0), (0, 0), (0, 0), (0, 0), (0, 0), (0, 0), (0, 0), (0, 0), (0, 1), (0, 0), (0, 0), (0, 0), (1, 1), (1, 1), (1, 1)]
abbrev rs27_15 : List (Nat × Nat) := [(0, 0), (0, 1), (0, 1), (0, 1), (0, 1), (0, 1), (0, 1), (0, 0), (1, 1)]
abbrev rs38_1 : List (Nat × Nat) := [(0, 0), (0, 0), (0, 0), (0, 0), (0, 0), (0, 0), (0, 0)]
abbrev rs38_14 : List (Nat × Nat) := [(0, 0), (0, 0), (0, 0), (0, 0), (0, 0), (0, 0), (0, 0)]
abbrev rs49_9 : List (Nat × Nat) := [(0, 0), (0, 0), (0, 0), (0, 0), (0, 0), (0, 0), (1, 1), (1, 1)]
abbrev rs55_10 : List (Nat × Nat) := [(0, 0), (0, 1), (0, 1), (0, 1), (0, 1), (1, 1), (2, 2), (0, 2), (0, 2), (0, 2), (0, 2), (0, 2), (0, 2), (0, 2), (0, 2), (0, 2), (0, 2), (2, 2), (0, 2), (2, 2)]
end Go.Proofs.YtehfcboiimdkbaaGreatDoor
