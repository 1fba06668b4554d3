/- What the program says of its types, and which slots of a function live across its regions (printed by gen_lay.py). -/
import Derived.Test.YtcbmlanpianclaaGreatDoorBS01
import Derived.Test.YtcbmlanpianclaaGreatDoorProg
namespace Go.Proofs.YtcbmlanpianclaaGreatDoor
set_option linter.unusedSimpArgs false
set_option linter.unusedVariables false
open Go.RowKit
set_option linter.defProp false
theorem ti0 : zF3 Tryz.prog 0 = some ⟨1, false, [SC.v (Value.tuple [].toArray)], [], 0, 1, 0, IntKind.i64⟩ := by kernel_rfl
theorem ti2 : zF3 Tryz.prog 2 = some ⟨1, false, [SC.i IntKind.i64 0], [], 0, 1, 1, IntKind.i64⟩ := by kernel_rfl
theorem ti3 : zF3 Tryz.prog 3 = some ⟨1, false, [SC.i IntKind.i64 0], [], 0, 1, 1, IntKind.i64⟩ := by kernel_rfl
theorem ti4 : zF3 Tryz.prog 4 = some ⟨1, false, [SC.b false], [], 0, 1, 7, IntKind.i64⟩ := by kernel_rfl
theorem ti5 : zF3 Tryz.prog 5 = some ⟨1, false, [SC.i IntKind.u8 0], [], 0, 1, 1, IntKind.u8⟩ := by kernel_rfl
theorem ti9 : zF3 Tryz.prog 9 = some ⟨1, false, [SC.s []], [], 0, 1, 2, IntKind.i64⟩ := by kernel_rfl
theorem ti20 : zF3 Tryz.prog 20 = some ⟨1, false, [SC.v Value.nilIface], [], 0, 1, 8, IntKind.i64⟩ := by kernel_rfl
theorem ti22 : zF3 Tryz.prog 22 = some ⟨1, false, [SC.v (Value.slice none 0 0)], [], 30, 3, 3, IntKind.i64⟩ := by kernel_rfl
theorem ti24 : zF3 Tryz.prog 24 = some ⟨1, false, [SC.v (Value.pointer none)], [], 45, 4, 6, IntKind.i64⟩ := by kernel_rfl
theorem ti26 : zF3 Tryz.prog 26 = some ⟨1, false, [SC.v (Value.pointer none)], [], 28, 4, 6, IntKind.i64⟩ := by kernel_rfl
theorem ti28 : zF3 Tryz.prog 28 = some ⟨4, true, [SC.s [], SC.i IntKind.i64 0, SC.s [], SC.b false], [(0, 1, false), (1, 1, false), (2, 1, false), (3, 1, false)], 0, 1, 4, IntKind.i64⟩ := by kernel_rfl
theorem ti30 : zF3 Tryz.prog 30 = some ⟨3, true, [SC.i IntKind.i64 0, SC.i IntKind.i64 0, SC.s []], [(0, 1, false), (1, 1, false), (2, 1, false)], 0, 1, 4, IntKind.i64⟩ := by kernel_rfl
theorem ti32 : zF3 Tryz.prog 32 = some ⟨1, false, [SC.v (Value.slice none 0 0)], [], 52, 16, 3, IntKind.i64⟩ := by kernel_rfl
theorem ti33 : zF3 Tryz.prog 33 = some ⟨1, false, [SC.v (Value.slice none 0 0)], [], 9, 1, 3, IntKind.i64⟩ := by kernel_rfl
theorem ti35 : zF3 Tryz.prog 35 = some ⟨11, true, [SC.i IntKind.i64 0, SC.v (Value.slice none 0 0), SC.b false, SC.b false, SC.s [], SC.s [], SC.i IntKind.i64 0, SC.b false, SC.s [], SC.v (Value.slice none 0 0), SC.s []], [(0, 1, false), (1, 1, false), (2, 1, false), (3, 1, false), (4, 1, false), (5, 1, false), (6, 1, false), (7, 1, false), (8, 1, false), (9, 1, false), (10, 1, false)], 0, 1, 4, IntKind.i64⟩ := by kernel_rfl
theorem ti36 : zF3 Tryz.prog 36 = some ⟨1, false, [SC.v (Value.tuple { toList := [Value.agg { toList := [Value.int IntKind.i64 0, Value.slice none 0 0, Value.bool false, Value.bool false, Value.string { data := [].toArray }, Value.string { data := [].toArray }, Value.int IntKind.i64 0, Value.bool false, Value.string { data := [].toArray }, Value.slice none 0 0, Value.string { data := [].toArray }] }, Value.bool false] })], [], 0, 1, 0, IntKind.i64⟩ := by kernel_rfl
theorem ti41 : zF3 Tryz.prog 41 = some ⟨1, false, [SC.v (Value.tuple [Value.int IntKind.i64 0, Value.int IntKind.i64 0].toArray)], [], 0, 1, 0, IntKind.i64⟩ := by kernel_rfl
theorem ti45 : zF3 Tryz.prog 45 = some ⟨4, true, [SC.s [], SC.s [], SC.i IntKind.i64 0, SC.b false], [(0, 1, false), (1, 1, false), (2, 1, false), (3, 1, false)], 0, 1, 4, IntKind.i64⟩ := by kernel_rfl
theorem ti46 : zF3 Tryz.prog 46 = some ⟨1, false, [SC.v (Value.tuple { toList := [Value.agg { toList := [Value.int IntKind.i64 0, Value.slice none 0 0, Value.bool false, Value.bool false, Value.string { data := [].toArray }, Value.string { data := [].toArray }, Value.int IntKind.i64 0, Value.bool false, Value.string { data := [].toArray }, Value.slice none 0 0, Value.string { data := [].toArray }] }, Value.int IntKind.i64 0] })], [], 0, 1, 0, IntKind.i64⟩ := by kernel_rfl
theorem ti49 : zF3 Tryz.prog 49 = some ⟨1, false, [SC.i IntKind.u32 0], [], 0, 1, 1, IntKind.u32⟩ := by kernel_rfl
theorem ti50 : zF3 Tryz.prog 50 = some ⟨1, false, [SC.i IntKind.u64 0], [], 0, 1, 1, IntKind.u64⟩ := by kernel_rfl
theorem ti52 : zF3 Tryz.prog 52 = some ⟨16, true, [SC.i IntKind.i64 0, SC.i IntKind.i64 0, SC.s [], SC.s [], SC.i IntKind.u32 0, SC.i IntKind.i64 0, SC.b false, SC.i IntKind.u64 0, SC.b false, SC.i IntKind.u64 0, SC.i IntKind.u64 0, SC.b false, SC.b false, SC.i IntKind.i64 0, SC.i IntKind.i64 0, SC.b false], [(0, 1, false), (1, 1, false), (2, 1, false), (3, 1, false), (4, 1, false), (5, 1, false), (6, 1, false), (7, 1, false), (8, 1, false), (9, 1, false), (10, 1, false), (11, 1, false), (12, 1, false), (13, 1, false), (14, 1, false), (15, 1, false)], 0, 1, 4, IntKind.i64⟩ := by kernel_rfl
theorem ti53 : zF3 Tryz.prog 53 = some ⟨1, false, [SC.v (Value.tuple { toList := [Value.string { data := [].toArray }, Value.int IntKind.i64 0] })], [], 0, 1, 0, IntKind.i64⟩ := by kernel_rfl
theorem ti55 : zF3 Tryz.prog 55 = some ⟨1, false, [SC.v (Value.tuple { toList := [Value.string { data := [].toArray }, Value.string { data := [].toArray }, Value.bool false] })], [], 0, 1, 0, IntKind.i64⟩ := by kernel_rfl
theorem ti68 : zF3 Tryz.prog 68 = some ⟨1, false, [SC.v (Value.tuple { toList := [Value.agg { toList := [Value.int IntKind.i64 0, Value.int IntKind.i64 0, Value.string { data := [].toArray }, Value.string { data := [].toArray }, Value.int IntKind.u32 0, Value.int IntKind.i64 0, Value.bool false, Value.int IntKind.u64 0, Value.bool false, Value.int IntKind.u64 0, Value.int IntKind.u64 0, Value.bool false, Value.bool false, Value.int IntKind.i64 0, Value.int IntKind.i64 0, Value.bool false] }, Value.string { data := [].toArray }] })], [], 0, 1, 0, IntKind.i64⟩ := by kernel_rfl
theorem ti70 : zF3 Tryz.prog 70 = some ⟨1, false, [SC.v (Value.tuple { toList := [Value.agg { toList := [Value.int IntKind.i64 0, Value.slice none 0 0, Value.bool false, Value.bool false, Value.string { data := [].toArray }, Value.string { data := [].toArray }, Value.int IntKind.i64 0, Value.bool false, Value.string { data := [].toArray }, Value.slice none 0 0, Value.string { data := [].toArray }] }, Value.int IntKind.i64 0, Value.bool false] })], [], 0, 1, 0, IntKind.i64⟩ := by kernel_rfl
theorem ti73 : zF3 Tryz.prog 73 = some ⟨1, false, [SC.v (Value.pointer none)], [], 75, 5, 6, IntKind.i64⟩ := by kernel_rfl
theorem ti75 : zF3 Tryz.prog 75 = some ⟨5, true, [SC.s [], SC.v (Value.slice none 0 0), SC.s [], SC.i IntKind.i64 0, SC.b false], [(0, 1, false), (1, 1, false), (2, 1, false), (3, 1, false), (4, 1, false)], 0, 1, 4, IntKind.i64⟩ := by kernel_rfl
theorem ti76 : zF3 Tryz.prog 76 = some ⟨1, false, [SC.v (Value.tuple { toList := [Value.string { data := [].toArray }, Value.int IntKind.i64 0, Value.agg { toList := [Value.int IntKind.i64 0, Value.slice none 0 0, Value.bool false, Value.bool false, Value.string { data := [].toArray }, Value.string { data := [].toArray }, Value.int IntKind.i64 0, Value.bool false, Value.string { data := [].toArray }, Value.slice none 0 0, Value.string { data := [].toArray }] }, Value.bool false] })], [], 0, 1, 0, IntKind.i64⟩ := by kernel_rfl
theorem ti87 : zF3 Tryz.prog 87 = some ⟨1, false, [SC.v (Value.tuple [Value.int IntKind.u64 0, Value.bool false].toArray)], [], 0, 1, 0, IntKind.i64⟩ := by kernel_rfl
theorem ti89 : zF3 Tryz.prog 89 = some ⟨1, false, [SC.v (Value.tuple { toList := [Value.string { data := [].toArray }, Value.bool false, Value.bool false] })], [], 0, 1, 0, IntKind.i64⟩ := by kernel_rfl
theorem ti91 : zF3 Tryz.prog 91 = some ⟨1, false, [SC.v (Value.pointer none)], [], 52, 16, 6, IntKind.i64⟩ := by kernel_rfl
theorem ti92 : zF3 Tryz.prog 92 = some ⟨1, false, [SC.v (Value.tuple { toList := [Value.string { data := [].toArray }, Value.bool false] })], [], 0, 1, 0, IntKind.i64⟩ := by kernel_rfl
theorem ti96 : zF3 Tryz.prog 96 = some ⟨1, false, [SC.s []], [], 0, 1, 2, IntKind.i64⟩ := by kernel_rfl
theorem ti100 : zF3 Tryz.prog 100 = some ⟨1, false, [SC.v (Value.tuple [Value.int IntKind.i64 0, Value.bool false].toArray)], [], 0, 1, 0, IntKind.i64⟩ := by kernel_rfl
theorem ti102 : zF3 Tryz.prog 102 = some ⟨1, false, [SC.v (Value.tuple [Value.slice none 0 0, Value.bool false].toArray)], [], 0, 1, 0, IntKind.i64⟩ := by kernel_rfl
theorem ti107 : zF3 Tryz.prog 107 = some ⟨1, false, [SC.i IntKind.u64 0], [], 0, 1, 1, IntKind.u64⟩ := by kernel_rfl
theorem ti111 : zF3 Tryz.prog 111 = some ⟨1, false, [SC.v Value.nilIface], [], 0, 1, 8, IntKind.i64⟩ := by kernel_rfl
theorem ti115 : zF3 Tryz.prog 115 = some ⟨1, false, [SC.v (Value.pointer none)], [], 118, 2, 6, IntKind.i64⟩ := by kernel_rfl
theorem ti116 : zF3 Tryz.prog 116 = some ⟨1, false, [SC.v (Value.slice none 0 0)], [], 5, 1, 3, IntKind.i64⟩ := by kernel_rfl
theorem ti118 : zF3 Tryz.prog 118 = some ⟨2, true, [SC.v (Value.pointer none), SC.v (Value.slice none 0 0)], [(0, 1, false), (1, 1, false)], 0, 1, 4, IntKind.i64⟩ := by kernel_rfl
theorem ti130 : zF3 Tryz.prog 130 = some ⟨1, false, [SC.v (Value.tuple [Value.int IntKind.u32 0, Value.bool false].toArray)], [], 0, 1, 0, IntKind.i64⟩ := by kernel_rfl
def lay0 := And.intro ti0 (And.intro ti2 (And.intro ti3 (And.intro ti4 (And.intro ti5 (And.intro ti9 (And.intro ti20 (And.intro ti22 (And.intro ti24 (And.intro ti26 (And.intro ti28 (And.intro ti30 (And.intro ti32 (And.intro ti33 (And.intro ti35 (And.intro ti36 (And.intro ti41 (And.intro ti45 (And.intro ti46 (ti49)))))))))))))))))))
def lay1 := And.intro ti50 (And.intro ti52 (And.intro ti53 (And.intro ti55 (And.intro ti68 (And.intro ti70 (And.intro ti73 (And.intro ti75 (And.intro ti76 (And.intro ti87 (And.intro ti89 (And.intro ti91 (And.intro ti92 (And.intro ti96 (And.intro ti100 (And.intro ti102 (And.intro ti107 (And.intro ti111 (And.intro ti115 (ti116)))))))))))))))))))
def lay2 := And.intro ti118 (ti130)
def zM := And.intro lay0 (And.intro lay1 (lay2))
set_option linter.defProp false
abbrev kp3 : List Nat := [0, 2, 3, 4, 5, 6, 7, 8, 9, 10, 11, 12, 13, 14, 15, 25, 33, 43, 49, 50, 61, 82, 89, 104, 115, 154]
abbrev kp4 : List Nat := [0, 1, 3, 4, 5, 6, 7, 8, 16]
abbrev kp5 : List Nat := [0]
abbrev kp6 : List Nat := [0, 1, 4, 5, 6, 10]
abbrev kp7 : List Nat := [0, 1, 4, 5, 6, 10]
abbrev kp8 : List Nat := [0, 2, 3, 4, 5, 6, 18, 30, 61]
abbrev kp9 : List Nat := [0, 2, 3, 4, 5, 6, 18, 30, 66]
abbrev kp10 : List Nat := [0, 1, 2, 3, 4, 5, 6, 12, 13, 14, 15, 16, 17, 18, 19, 20, 21, 22, 23, 24, 25, 26, 27, 28, 29, 30, 31, 32, 33, 34, 35, 36, 37, 38, 39, 40, 41, 42, 43, 44, 45, 46, 47, 48, 49, 50, 51, 52, 53, 54, 55, 56, 57, 58, 59, 60, 61, 62, 63, 64, 65, 66, 67, 68, 69, 70, 71, 72, 73, 74, 75, 76, 77, 78, 79, 80, 81, 82, 83, 84, 85, 90, 103]
abbrev kp11 : List Nat := [0, 1]
abbrev kp12 : List Nat := [0, 1, 4, 5]
abbrev kp13 : List Nat := [0, 1, 4, 5]
abbrev kp14 : List Nat := [0]
abbrev kp15 : List Nat := [0]
abbrev kp16 : List Nat := [0, 2, 3]
abbrev kp17 : List Nat := [0, 2]
abbrev kp18 : List Nat := [0, 2, 3, 4, 6, 38]
abbrev kp19 : List Nat := [0, 2, 3, 4, 5, 6, 17, 22, 25, 26]
abbrev kp20 : List Nat := [0, 1, 4, 5, 10, 14, 25]
abbrev kp21 : List Nat := [0, 2, 3, 4, 6, 14]
abbrev kp25 : List Nat := [0, 2, 3, 4, 5, 6, 7, 9, 10, 11, 12, 22, 31, 41, 49, 61, 67]
abbrev kp26 : List Nat := [0, 2, 3, 4, 5, 6, 7, 8, 9, 19, 28, 46, 71]
abbrev kp27 : List Nat := [0, 2, 3, 4, 8, 14, 23]
abbrev kp28 : List Nat := [0, 2, 3, 4, 5, 9, 21, 24]
abbrev kp29 : List Nat := [0, 2, 3, 4, 5, 6, 7, 8, 9, 10, 19, 26, 31, 32, 36, 39, 54]
abbrev kp30 : List Nat := [0, 2, 3, 4, 5, 6, 7, 8, 9, 10, 19, 26, 31, 32, 40, 56, 62, 72, 76, 79, 83, 86, 90, 95]
abbrev kp38 : List Nat := [0, 1, 4]
abbrev kp40 : List Nat := [0, 2, 3, 5, 6, 9, 12, 15, 18]
abbrev kp41 : List Nat := [0, 1, 4, 5, 6, 7, 8, 9, 10, 11, 12, 13, 14, 15, 16, 17, 25, 40, 43, 57, 74, 82, 85, 94, 97, 104, 109, 119]
abbrev kp42 : List Nat := [0, 2]
abbrev kp43 : List Nat := [0, 2, 3, 8, 9, 16]
abbrev kp44 : List Nat := [0, 2, 3, 4, 5, 6, 7, 8, 19, 25]
abbrev kp45 : List Nat := [0, 2]
abbrev kp46 : List Nat := [0, 1, 4, 5, 6, 7, 8, 9, 10, 11, 12, 13, 14, 15, 16, 31, 42, 55, 75, 88, 91, 108, 114, 116, 125, 134]
abbrev kp47 : List Nat := [0, 2, 3, 4, 5, 6, 7, 8, 9, 10, 23, 26, 36, 45, 61, 70]
abbrev kp48 : List Nat := [0, 1, 4, 5, 6, 7, 8, 9, 10, 11, 12, 13, 14, 15, 16, 17, 18, 19, 20, 21, 30, 34, 48, 72, 97, 103, 111, 117]
abbrev kp49 : List Nat := [0, 2, 3, 4, 5, 6, 7, 8, 9, 10, 11, 18, 37, 52, 77, 83, 86, 95, 106, 110, 111, 121, 129, 139, 156]
abbrev kp58 : List Nat := [0, 1, 2, 6, 7, 8, 9, 11, 12, 13, 14, 15, 18, 24, 29]
abbrev kp59 : List Nat := [0, 2, 3, 4, 5, 6, 7, 8, 9, 23, 25, 26, 27, 34, 43, 57]
abbrev kp62 : List Nat := [0, 1, 3, 4, 5, 7, 9, 10]
abbrev kp63 : List Nat := [0, 2, 3, 4, 5, 7, 8, 18, 39, 40, 41, 42]
abbrev kp64 : List Nat := [0, 2, 3, 4, 5, 6, 7, 8, 9, 10, 11, 12, 13, 14, 22, 81, 100, 121, 128, 152]
abbrev kp65 : List Nat := [0, 2, 3, 4, 5, 6, 7, 11, 12, 44, 58, 87, 99, 107, 118, 123, 128]
abbrev kp67 : List Nat := [0, 2, 3, 4, 6, 8, 10]
abbrev kp68 : List Nat := [0, 1, 2, 6, 7, 8, 9, 10, 11, 12, 18, 30, 33, 42, 52]
abbrev kp69 : List Nat := [0, 1, 2, 4, 5, 10, 28]
abbrev kp70 : List Nat := [0, 2, 3, 4, 5, 6, 7, 8, 9, 10, 11, 12, 16, 20, 24, 52, 60, 85]
abbrev kp71 : List Nat := [0, 2, 3, 7, 19]
abbrev kp72 : List Nat := [0, 2, 3, 4, 5, 20]
abbrev kp73 : List Nat := [0, 2, 3, 15]
abbrev kp74 : List Nat := [0, 2, 3, 4, 7, 9, 11, 13]
abbrev kp75 : List Nat := [0, 1, 2, 4]
abbrev kp86 : List Nat := [0, 1, 2, 6, 7, 8, 22, 38, 48, 58, 75, 80, 93, 103, 121]
abbrev kp88 : List Nat := [0, 1, 4]
abbrev kp92 : List Nat := [0, 1, 2]
abbrev kp93 : List Nat := [0, 1, 4, 5, 6]
abbrev kp94 : List Nat := [0, 1, 5]
abbrev kp95 : List Nat := [0, 1, 4, 5, 7, 8, 9]
abbrev kp97 : List Nat := [0, 2, 20]
abbrev kp98 : List Nat := [0, 2, 3, 4, 5]
abbrev kp100 : List Nat := [0]
abbrev kp101 : List Nat := [0, 1, 4]
abbrev kp102 : List Nat := [0, 2]
abbrev kp103 : List Nat := [0, 2, 3, 4, 6, 8, 10, 12]
abbrev kp104 : List Nat := [0, 1, 4, 5, 9, 16]
abbrev kp105 : List Nat := [0, 1, 2, 6, 7, 8, 9, 10, 21, 22, 29, 39, 46, 53, 65, 70, 80, 90, 97]
abbrev kp106 : List Nat := [0, 2, 3, 4, 14, 25, 36, 39]
abbrev kp107 : List Nat := [0, 2, 3, 4, 5, 6, 7, 11, 24, 34, 58, 62]
abbrev kp115 : List Nat := [0, 1, 4, 5, 6, 9, 14]
abbrev kp116 : List Nat := [0, 2, 3, 4, 5]
abbrev kp124 : List Nat := [0, 1, 4, 7, 12, 23, 24, 30, 36, 42, 48]
abbrev kp125 : List Nat := [0, 2, 3, 9, 16, 23]
abbrev res3 : List ResultVar := [ResultVar.tmp 2]
theorem hres3 : Tryz.f3.results.toList = res3 := by kernel_rfl
abbrev res4 : List ResultVar := [ResultVar.tmp 0]
theorem hres4 : Tryz.f4.results.toList = res4 := by kernel_rfl
abbrev res5 : List ResultVar := [ResultVar.tmp 0]
theorem hres5 : Tryz.f5.results.toList = res5 := by kernel_rfl
abbrev res6 : List ResultVar := [ResultVar.tmp 4]
theorem hres6 : Tryz.f6.results.toList = res6 := by kernel_rfl
abbrev res7 : List ResultVar := [ResultVar.tmp 4]
theorem hres7 : Tryz.f7.results.toList = res7 := by kernel_rfl
abbrev res8 : List ResultVar := [ResultVar.cell 2 35, ResultVar.tmp 3]
theorem hres8 : Tryz.f8.results.toList = res8 := by kernel_rfl
abbrev res9 : List ResultVar := [ResultVar.cell 2 35, ResultVar.tmp 3]
theorem hres9 : Tryz.f9.results.toList = res9 := by kernel_rfl
abbrev res10 : List ResultVar := [ResultVar.tmp 4]
theorem hres10 : Tryz.f10.results.toList = res10 := by kernel_rfl
abbrev res11 : List ResultVar := []
theorem hres11 : Tryz.f11.results.toList = res11 := by kernel_rfl
abbrev res12 : List ResultVar := [ResultVar.tmp 4]
theorem hres12 : Tryz.f12.results.toList = res12 := by kernel_rfl
abbrev res13 : List ResultVar := [ResultVar.tmp 4]
theorem hres13 : Tryz.f13.results.toList = res13 := by kernel_rfl
abbrev res14 : List ResultVar := []
theorem hres14 : Tryz.f14.results.toList = res14 := by kernel_rfl
abbrev res15 : List ResultVar := []
theorem hres15 : Tryz.f15.results.toList = res15 := by kernel_rfl
abbrev res16 : List ResultVar := [ResultVar.tmp 2, ResultVar.tmp 3]
theorem hres16 : Tryz.f16.results.toList = res16 := by kernel_rfl
abbrev res17 : List ResultVar := [ResultVar.tmp 2]
theorem hres17 : Tryz.f17.results.toList = res17 := by kernel_rfl
abbrev res18 : List ResultVar := [ResultVar.cell 2 35, ResultVar.tmp 3]
theorem hres18 : Tryz.f18.results.toList = res18 := by kernel_rfl
abbrev res19 : List ResultVar := [ResultVar.cell 2 35, ResultVar.tmp 3]
theorem hres19 : Tryz.f19.results.toList = res19 := by kernel_rfl
abbrev res20 : List ResultVar := [ResultVar.tmp 4]
theorem hres20 : Tryz.f20.results.toList = res20 := by kernel_rfl
abbrev res21 : List ResultVar := [ResultVar.tmp 2, ResultVar.tmp 3]
theorem hres21 : Tryz.f21.results.toList = res21 := by kernel_rfl
abbrev res25 : List ResultVar := [ResultVar.cell 2 35, ResultVar.tmp 3]
theorem hres25 : Tryz.f25.results.toList = res25 := by kernel_rfl
abbrev res26 : List ResultVar := [ResultVar.cell 2 35, ResultVar.tmp 3]
theorem hres26 : Tryz.f26.results.toList = res26 := by kernel_rfl
abbrev res27 : List ResultVar := [ResultVar.tmp 2, ResultVar.tmp 3]
theorem hres27 : Tryz.f27.results.toList = res27 := by kernel_rfl
abbrev res28 : List ResultVar := [ResultVar.tmp 2]
theorem hres28 : Tryz.f28.results.toList = res28 := by kernel_rfl
abbrev res29 : List ResultVar := [ResultVar.cell 2 35, ResultVar.tmp 3]
theorem hres29 : Tryz.f29.results.toList = res29 := by kernel_rfl
abbrev res30 : List ResultVar := [ResultVar.cell 2 35, ResultVar.tmp 3]
theorem hres30 : Tryz.f30.results.toList = res30 := by kernel_rfl
abbrev res38 : List ResultVar := [ResultVar.cell 4 35]
theorem hres38 : Tryz.f38.results.toList = res38 := by kernel_rfl
abbrev res40 : List ResultVar := [ResultVar.cell 2 52, ResultVar.tmp 3]
theorem hres40 : Tryz.f40.results.toList = res40 := by kernel_rfl
abbrev res41 : List ResultVar := [ResultVar.cell 4 35, ResultVar.tmp 5, ResultVar.tmp 6]
theorem hres41 : Tryz.f41.results.toList = res41 := by kernel_rfl
abbrev res42 : List ResultVar := [ResultVar.cell 2 35]
theorem hres42 : Tryz.f42.results.toList = res42 := by kernel_rfl
abbrev res43 : List ResultVar := [ResultVar.cell 2 35, ResultVar.cell 3 4]
theorem hres43 : Tryz.f43.results.toList = res43 := by kernel_rfl
abbrev res44 : List ResultVar := [ResultVar.tmp 2, ResultVar.tmp 3, ResultVar.cell 4 35, ResultVar.tmp 5]
theorem hres44 : Tryz.f44.results.toList = res44 := by kernel_rfl
abbrev res45 : List ResultVar := [ResultVar.cell 2 35]
theorem hres45 : Tryz.f45.results.toList = res45 := by kernel_rfl
abbrev res46 : List ResultVar := [ResultVar.cell 4 35, ResultVar.tmp 5]
theorem hres46 : Tryz.f46.results.toList = res46 := by kernel_rfl
abbrev res47 : List ResultVar := [ResultVar.cell 2 35]
abbrev res48 : List ResultVar := [ResultVar.cell 4 35, ResultVar.tmp 5]
theorem hres48 : Tryz.f48.results.toList = res48 := by kernel_rfl
abbrev res49 : List ResultVar := [ResultVar.cell 2 35]
theorem hres49 : Tryz.f49.results.toList = res49 := by kernel_rfl
abbrev res58 : List ResultVar := [ResultVar.tmp 6, ResultVar.tmp 7, ResultVar.tmp 8]
theorem hres58 : Tryz.f58.results.toList = res58 := by kernel_rfl
abbrev res59 : List ResultVar := [ResultVar.tmp 2, ResultVar.tmp 3]
theorem hres59 : Tryz.f59.results.toList = res59 := by kernel_rfl
abbrev res62 : List ResultVar := []
theorem hres62 : Tryz.f62.results.toList = res62 := by kernel_rfl
abbrev res63 : List ResultVar := [ResultVar.cell 2 35]
theorem hres63 : Tryz.f63.results.toList = res63 := by kernel_rfl
abbrev res64 : List ResultVar := [ResultVar.cell 2 35, ResultVar.tmp 3]
theorem hres64 : Tryz.f64.results.toList = res64 := by kernel_rfl
abbrev res65 : List ResultVar := [ResultVar.cell 2 35]
theorem hres65 : Tryz.f65.results.toList = res65 := by kernel_rfl
abbrev res67 : List ResultVar := [ResultVar.tmp 2]
theorem hres67 : Tryz.f67.results.toList = res67 := by kernel_rfl
abbrev res68 : List ResultVar := [ResultVar.tmp 6]
theorem hres68 : Tryz.f68.results.toList = res68 := by kernel_rfl
abbrev res69 : List ResultVar := [ResultVar.tmp 4]
theorem hres69 : Tryz.f69.results.toList = res69 := by kernel_rfl
abbrev res70 : List ResultVar := [ResultVar.tmp 2, ResultVar.tmp 3]
theorem hres70 : Tryz.f70.results.toList = res70 := by kernel_rfl
abbrev res71 : List ResultVar := [ResultVar.tmp 2]
theorem hres71 : Tryz.f71.results.toList = res71 := by kernel_rfl
abbrev res72 : List ResultVar := [ResultVar.tmp 2, ResultVar.tmp 3]
theorem hres72 : Tryz.f72.results.toList = res72 := by kernel_rfl
abbrev res73 : List ResultVar := [ResultVar.tmp 2, ResultVar.tmp 3]
theorem hres73 : Tryz.f73.results.toList = res73 := by kernel_rfl
abbrev res74 : List ResultVar := [ResultVar.tmp 2]
theorem hres74 : Tryz.f74.results.toList = res74 := by kernel_rfl
abbrev res75 : List ResultVar := [ResultVar.cell 4 35]
theorem hres75 : Tryz.f75.results.toList = res75 := by kernel_rfl
abbrev res86 : List ResultVar := [ResultVar.tmp 6]
theorem hres86 : Tryz.f86.results.toList = res86 := by kernel_rfl
abbrev res88 : List ResultVar := [ResultVar.tmp 4]
theorem hres88 : Tryz.f88.results.toList = res88 := by kernel_rfl
abbrev res92 : List ResultVar := []
theorem hres92 : Tryz.f92.results.toList = res92 := by kernel_rfl
abbrev res93 : List ResultVar := [ResultVar.tmp 4]
theorem hres93 : Tryz.f93.results.toList = res93 := by kernel_rfl
abbrev res94 : List ResultVar := []
theorem hres94 : Tryz.f94.results.toList = res94 := by kernel_rfl
abbrev res95 : List ResultVar := [ResultVar.cell 4 35]
theorem hres95 : Tryz.f95.results.toList = res95 := by kernel_rfl
abbrev res97 : List ResultVar := []
theorem hres97 : Tryz.f97.results.toList = res97 := by kernel_rfl
abbrev res98 : List ResultVar := [ResultVar.tmp 2, ResultVar.tmp 3]
theorem hres98 : Tryz.f98.results.toList = res98 := by kernel_rfl
abbrev res100 : List ResultVar := [ResultVar.tmp 0]
theorem hres100 : Tryz.f100.results.toList = res100 := by kernel_rfl
abbrev res101 : List ResultVar := [ResultVar.tmp 4]
theorem hres101 : Tryz.f101.results.toList = res101 := by kernel_rfl
abbrev res102 : List ResultVar := [ResultVar.tmp 2]
theorem hres102 : Tryz.f102.results.toList = res102 := by kernel_rfl
abbrev res103 : List ResultVar := [ResultVar.tmp 2]
theorem hres103 : Tryz.f103.results.toList = res103 := by kernel_rfl
abbrev res104 : List ResultVar := [ResultVar.tmp 4]
theorem hres104 : Tryz.f104.results.toList = res104 := by kernel_rfl
abbrev res105 : List ResultVar := [ResultVar.tmp 6]
theorem hres105 : Tryz.f105.results.toList = res105 := by kernel_rfl
abbrev res106 : List ResultVar := [ResultVar.tmp 2, ResultVar.tmp 3]
theorem hres106 : Tryz.f106.results.toList = res106 := by kernel_rfl
abbrev res107 : List ResultVar := [ResultVar.tmp 2]
theorem hres107 : Tryz.f107.results.toList = res107 := by kernel_rfl
abbrev res115 : List ResultVar := [ResultVar.tmp 4]
theorem hres115 : Tryz.f115.results.toList = res115 := by kernel_rfl
abbrev res116 : List ResultVar := [ResultVar.tmp 2, ResultVar.tmp 3]
theorem hres116 : Tryz.f116.results.toList = res116 := by kernel_rfl
abbrev res124 : List ResultVar := [ResultVar.tmp 4]
theorem hres124 : Tryz.f124.results.toList = res124 := by kernel_rfl
abbrev res125 : List ResultVar := [ResultVar.tmp 2]
theorem hres125 : Tryz.f125.results.toList = res125 := by kernel_rfl
abbrev rs3_15 : List (Nat × Nat) := [(0, 0), (0, 0), (0, 0), (0, 0), (0, 1), (0, 1), (0, 1), (1, 1), (2, 2), (2, 2)]
abbrev rs3_24 : List (Nat × Nat) := [(0, 0), (0, 0), (0, 0), (0, 0), (0, 0), (0, 0), (0, 0), (0, 0), (0, 0), (0, 0), (0, 0)]
abbrev rs3_26 : List (Nat × Nat) := [(0, 0), (0, 0), (0, 0), (0, 0), (0, 1), (0, 1), (0, 1), (1, 1), (2, 2), (2, 2)]
abbrev rs3_31 : List (Nat × Nat) := [(0, 0), (0, 0), (0, 0), (0, 0), (0, 0), (0, 1), (0, 1), (0, 1), (0, 1), (1, 1), (1, 1), (1, 1), (1, 1), (1, 1), (1, 1), (1, 1), (1, 1), (1, 1), (1, 1), (1, 1), (1, 1), (1, 1), (1, 1), (1, 1), (1, 1), (1, 1), (1, 1), (1, 1), (1, 1)]
abbrev rs6_7 : List (Nat × Nat) := [(0, 0), (0, 0), (0, 0), (0, 0), (0, 0), (0, 0), (0, 0), (0, 0), (0, 0), (0, 0), (0, 0)]
abbrev rs7_6 : List (Nat × Nat) := [(0, 0), (0, 0), (0, 0), (0, 0), (0, 0), (0, 0), (0, 0), (0, 0), (0, 0), (0, 0), (0, 0), (0, 0), (0, 0), (0, 0), (0, 0)]
abbrev rs8_6 : List (Nat × Nat) := [(0, 0), (0, 0), (0, 0), (0, 0), (0, 0), (0, 0), (0, 0), (0, 0), (0, 0), (0, 0), (0, 0)]
abbrev rs8_7 : List (Nat × Nat) := [(0, 0), (0, 1), (0, 0), (0, 0), (0, 0), (0, 0), (0, 0), (0, 0), (0, 0), (0, 0), (0, 1), (0, 1), (0, 1), (0, 1), (0, 0), (0, 0), (0, 0), (1, 1), (1, 1), (1, 1)]
abbrev rs9_7 : List (Nat × Nat) := [(0, 0), (0, 0), (0, 0), (0, 0), (0, 0), (0, 0), (0, 0), (0, 0), (0, 0)]
abbrev rs10_7 : List (Nat × Nat) := [(0, 0), (0, 0), (0, 0), (0, 0), (0, 0), (0, 0), (0, 0), (0, 0), (0, 0), (0, 0), (0, 0)]
abbrev rs16_1 : List (Nat × Nat) := [(0, 0), (0, 0), (0, 0), (0, 0), (0, 0), (0, 0), (0, 0), (0, 0), (0, 0), (0, 0), (0, 0), (0, 0)]
abbrev rs20_6 : List (Nat × Nat) := [(0, 0), (0, 0), (0, 0), (0, 0), (0, 0), (0, 0), (0, 0), (0, 0), (0, 0)]
abbrev rs26_8 : List (Nat × Nat) := [(0, 0), (0, 0), (0, 1), (0, 1), (0, 1), (1, 1), (1, 1), (1, 1)]
abbrev rs26_11 : List (Nat × Nat) := [(0, 0), (0, 1), (0, 0), (0, 0), (0, 0), (0, 0), (0, 0), (0, 0), (0, 0), (0, 0), (0, 0), (0, 0), (0, 1), (0, 0), (0, 0), (0, 0), (1, 1), (1, 1), (1, 1)]
abbrev rs26_15 : List (Nat × Nat) := [(0, 0), (0, 1), (0, 1), (0, 1), (0, 1), (0, 1), (0, 1), (0, 0), (1, 1)]
abbrev rs41_1 : List (Nat × Nat) := [(0, 0), (0, 0), (0, 0), (0, 0), (0, 0), (0, 0), (0, 0)]
abbrev rs41_14 : List (Nat × Nat) := [(0, 0), (0, 0), (0, 0), (0, 0), (0, 0), (0, 0), (0, 0)]
abbrev rs44_8 : List (Nat × Nat) := [(0, 0), (0, 0), (0, 0), (0, 0), (1, 1)]
abbrev rs46_4 : List (Nat × Nat) := [(0, 0), (0, 0), (0, 0), (0, 0), (0, 0), (0, 0), (0, 0), (0, 0), (0, 0), (0, 0), (0, 0)]
abbrev rs46_18 : List (Nat × Nat) := [(0, 0), (0, 0), (0, 0), (0, 0), (0, 0), (0, 0), (1, 1)]
abbrev rs48_30 : List (Nat × Nat) := [(0, 0), (0, 0), (0, 0), (0, 0), (0, 0), (0, 0), (0, 0), (0, 0), (0, 0), (0, 0), (0, 0), (0, 0), (0, 0), (0, 0), (0, 0), (0, 0), (0, 0), (0, 0), (0, 0)]
abbrev rs49_33 : List (Nat × Nat) := [(0, 0), (0, 0), (0, 0), (0, 0), (0, 0), (0, 0), (0, 0), (0, 0), (0, 0), (0, 0), (0, 0), (1, 1)]
abbrev rs58_9 : List (Nat × Nat) := [(0, 0), (0, 0), (0, 0), (0, 0), (0, 0), (0, 0), (1, 1), (1, 1)]
abbrev rs64_10 : List (Nat × Nat) := [(0, 0), (0, 1), (0, 1), (0, 1), (0, 1), (1, 1), (2, 2), (0, 2), (0, 2), (0, 2), (0, 2), (0, 2), (0, 2), (0, 2), (0, 2), (0, 2), (0, 2), (2, 2), (0, 2), (2, 2)]
end Go.Proofs.YtcbmlanpianclaaGreatDoor
