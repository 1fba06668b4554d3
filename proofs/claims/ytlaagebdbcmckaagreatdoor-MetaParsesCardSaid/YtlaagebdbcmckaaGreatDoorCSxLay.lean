/- What the program says of its types, and which slots of a function live across its regions (printed by gen_lay.py). -/
import Derived.Test.YtlaagebdbcmckaaGreatDoorBL
import Derived.Test.YtlaagebdbcmckaaGreatDoorProg
namespace Go.Proofs.YtlaagebdbcmckaaGreatDoor
set_option linter.unusedSimpArgs false
set_option linter.unusedVariables false
open Go.RowKit
set_option linter.defProp false
theorem ti0 : tiOf Tryz.prog 0 = some ⟨1, false, [SC.v (Value.tuple [].toArray)], [], 0, 1, 0, IntKind.i64⟩ := by kernel_rfl
theorem ti2 : tiOf Tryz.prog 2 = some ⟨1, false, [SC.i IntKind.i64 0], [], 0, 1, 1, IntKind.i64⟩ := by kernel_rfl
theorem ti3 : tiOf Tryz.prog 3 = some ⟨1, false, [SC.i IntKind.i64 0], [], 0, 1, 1, IntKind.i64⟩ := by kernel_rfl
theorem ti4 : tiOf Tryz.prog 4 = some ⟨1, false, [SC.b false], [], 0, 1, 7, IntKind.i64⟩ := by kernel_rfl
theorem ti5 : tiOf Tryz.prog 5 = some ⟨1, false, [SC.i IntKind.u8 0], [], 0, 1, 1, IntKind.u8⟩ := by kernel_rfl
theorem ti9 : tiOf Tryz.prog 9 = some ⟨1, false, [SC.s []], [], 0, 1, 2, IntKind.i64⟩ := by kernel_rfl
theorem ti23 : tiOf Tryz.prog 23 = some ⟨1, false, [SC.v (Value.slice none 0 0)], [], 33, 16, 3, IntKind.i64⟩ := by kernel_rfl
theorem ti24 : tiOf Tryz.prog 24 = some ⟨1, false, [SC.v (Value.slice none 0 0)], [], 9, 1, 3, IntKind.i64⟩ := by kernel_rfl
theorem ti26 : tiOf Tryz.prog 26 = some ⟨11, true, [SC.i IntKind.i64 0, SC.v (Value.slice none 0 0), SC.b false, SC.b false, SC.s [], SC.s [], SC.i IntKind.i64 0, SC.b false, SC.s [], SC.v (Value.slice none 0 0), SC.s []], [(0, 1, false), (1, 1, false), (2, 1, false), (3, 1, false), (4, 1, false), (5, 1, false), (6, 1, false), (7, 1, false), (8, 1, false), (9, 1, false), (10, 1, false)], 0, 1, 4, IntKind.i64⟩ := by kernel_rfl
theorem ti27 : tiOf Tryz.prog 27 = some ⟨1, false, [SC.v (Value.tuple { toList := [Value.agg { toList := [Value.int IntKind.i64 0, Value.slice none 0 0, Value.bool false, Value.bool false, Value.string { data := [].toArray }, Value.string { data := [].toArray }, Value.int IntKind.i64 0, Value.bool false, Value.string { data := [].toArray }, Value.slice none 0 0, Value.string { data := [].toArray }] }, Value.int IntKind.i64 0] })], [], 0, 1, 0, IntKind.i64⟩ := by kernel_rfl
theorem ti30 : tiOf Tryz.prog 30 = some ⟨1, false, [SC.i IntKind.u32 0], [], 0, 1, 1, IntKind.u32⟩ := by kernel_rfl
theorem ti31 : tiOf Tryz.prog 31 = some ⟨1, false, [SC.i IntKind.u64 0], [], 0, 1, 1, IntKind.u64⟩ := by kernel_rfl
theorem ti33 : tiOf Tryz.prog 33 = some ⟨16, true, [SC.i IntKind.i64 0, SC.i IntKind.i64 0, SC.s [], SC.s [], SC.i IntKind.u32 0, SC.i IntKind.i64 0, SC.b false, SC.i IntKind.u64 0, SC.b false, SC.i IntKind.u64 0, SC.i IntKind.u64 0, SC.b false, SC.b false, SC.i IntKind.i64 0, SC.i IntKind.i64 0, SC.b false], [(0, 1, false), (1, 1, false), (2, 1, false), (3, 1, false), (4, 1, false), (5, 1, false), (6, 1, false), (7, 1, false), (8, 1, false), (9, 1, false), (10, 1, false), (11, 1, false), (12, 1, false), (13, 1, false), (14, 1, false), (15, 1, false)], 0, 1, 4, IntKind.i64⟩ := by kernel_rfl
theorem ti36 : tiOf Tryz.prog 36 = some ⟨8, true, [SC.s [], SC.i IntKind.u32 0, SC.s [], SC.i IntKind.i64 0, SC.i IntKind.u64 0, SC.i IntKind.i64 0, SC.b false, SC.b false], [(0, 1, false), (1, 1, false), (2, 1, false), (3, 1, false), (4, 1, false), (5, 1, false), (6, 1, false), (7, 1, false)], 0, 1, 4, IntKind.i64⟩ := by kernel_rfl
theorem ti38 : tiOf Tryz.prog 38 = some ⟨13, true, [SC.i IntKind.i64 0, SC.s [], SC.i IntKind.u32 0, SC.s [], SC.i IntKind.i64 0, SC.i IntKind.u64 0, SC.i IntKind.i64 0, SC.b false, SC.b false, SC.i IntKind.u64 0, SC.b false, SC.b false, SC.b false], [(0, 1, false), (1, 8, true), (9, 1, false), (10, 1, false), (11, 1, false), (12, 1, false)], 0, 1, 4, IntKind.i64⟩ := by kernel_rfl
theorem ti52 : tiOf Tryz.prog 52 = some ⟨1, false, [SC.v (Value.tuple { toList := [Value.string { data := [].toArray }, Value.int IntKind.i64 0, Value.agg { toList := [Value.int IntKind.i64 0, Value.slice none 0 0, Value.bool false, Value.bool false, Value.string { data := [].toArray }, Value.string { data := [].toArray }, Value.int IntKind.i64 0, Value.bool false, Value.string { data := [].toArray }, Value.slice none 0 0, Value.string { data := [].toArray }] }, Value.bool false] })], [], 0, 1, 0, IntKind.i64⟩ := by kernel_rfl
theorem ti57 : tiOf Tryz.prog 57 = some ⟨1, false, [SC.v (Value.tuple { toList := [Value.string { data := [].toArray }, Value.int IntKind.i64 0] })], [], 0, 1, 0, IntKind.i64⟩ := by kernel_rfl
theorem ti60 : tiOf Tryz.prog 60 = some ⟨1, false, [SC.v (Value.tuple { toList := [Value.agg { toList := [Value.int IntKind.i64 0, Value.int IntKind.i64 0, Value.string { data := [].toArray }, Value.string { data := [].toArray }, Value.int IntKind.u32 0, Value.int IntKind.i64 0, Value.bool false, Value.int IntKind.u64 0, Value.bool false, Value.int IntKind.u64 0, Value.int IntKind.u64 0, Value.bool false, Value.bool false, Value.int IntKind.i64 0, Value.int IntKind.i64 0, Value.bool false] }, Value.string { data := [].toArray }] })], [], 0, 1, 0, IntKind.i64⟩ := by kernel_rfl
theorem ti62 : tiOf Tryz.prog 62 = some ⟨1, false, [SC.v (Value.tuple { toList := [Value.agg { toList := [Value.int IntKind.i64 0, Value.slice none 0 0, Value.bool false, Value.bool false, Value.string { data := [].toArray }, Value.string { data := [].toArray }, Value.int IntKind.i64 0, Value.bool false, Value.string { data := [].toArray }, Value.slice none 0 0, Value.string { data := [].toArray }] }, Value.int IntKind.i64 0, Value.bool false] })], [], 0, 1, 0, IntKind.i64⟩ := by kernel_rfl
theorem ti66 : tiOf Tryz.prog 66 = some ⟨25, true, [SC.i IntKind.i64 0, SC.v (Value.slice none 0 0), SC.b false, SC.b false, SC.s [], SC.s [], SC.i IntKind.i64 0, SC.b false, SC.s [], SC.v (Value.slice none 0 0), SC.s [], SC.i IntKind.i64 0, SC.s [], SC.i IntKind.u32 0, SC.s [], SC.i IntKind.i64 0, SC.i IntKind.u64 0, SC.i IntKind.i64 0, SC.b false, SC.b false, SC.i IntKind.u64 0, SC.b false, SC.b false, SC.b false, SC.i IntKind.i64 0], [(0, 11, true), (11, 13, true), (24, 1, false)], 0, 1, 4, IntKind.i64⟩ := by kernel_rfl
theorem ti73 : tiOf Tryz.prog 73 = some ⟨1, false, [SC.v (Value.slice none 0 0)], [], 5, 1, 3, IntKind.i64⟩ := by kernel_rfl
theorem ti74 : tiOf Tryz.prog 74 = some ⟨1, false, [SC.v (Value.pointer none)], [], 76, 2, 6, IntKind.i64⟩ := by kernel_rfl
theorem ti76 : tiOf Tryz.prog 76 = some ⟨2, true, [SC.v (Value.pointer none), SC.v (Value.slice none 0 0)], [(0, 1, false), (1, 1, false)], 0, 1, 4, IntKind.i64⟩ := by kernel_rfl
theorem ti77 : tiOf Tryz.prog 77 = some ⟨1, false, [SC.i IntKind.u64 0], [], 0, 1, 1, IntKind.u64⟩ := by kernel_rfl
theorem ti79 : tiOf Tryz.prog 79 = some ⟨1, false, [SC.v Value.nilIface], [], 0, 1, 8, IntKind.i64⟩ := by kernel_rfl
theorem ti82 : tiOf Tryz.prog 82 = some ⟨1, false, [SC.v (Value.tuple [Value.int IntKind.u64 0, Value.bool false].toArray)], [], 0, 1, 0, IntKind.i64⟩ := by kernel_rfl
theorem ti86 : tiOf Tryz.prog 86 = some ⟨1, false, [SC.v (Value.pointer none)], [], 33, 16, 6, IntKind.i64⟩ := by kernel_rfl
theorem ti88 : tiOf Tryz.prog 88 = some ⟨1, false, [SC.v (Value.tuple { toList := [Value.string { data := [].toArray }, Value.bool false] })], [], 0, 1, 0, IntKind.i64⟩ := by kernel_rfl
theorem ti90 : tiOf Tryz.prog 90 = some ⟨1, false, [SC.v (Value.tuple { toList := [Value.string { data := [].toArray }, Value.string { data := [].toArray }, Value.bool false] })], [], 0, 1, 0, IntKind.i64⟩ := by kernel_rfl
theorem ti95 : tiOf Tryz.prog 95 = some ⟨1, false, [SC.v (Value.tuple { toList := [Value.string { data := [].toArray }, Value.bool false, Value.bool false] })], [], 0, 1, 0, IntKind.i64⟩ := by kernel_rfl
theorem ti99 : tiOf Tryz.prog 99 = some ⟨3, true, [SC.b false, SC.b false, SC.b false], [], 4, 1, 5, IntKind.i64⟩ := by kernel_rfl
theorem ti104 : tiOf Tryz.prog 104 = some ⟨1, false, [SC.v (Value.tuple [Value.int IntKind.u32 0, Value.bool false].toArray)], [], 0, 1, 0, IntKind.i64⟩ := by kernel_rfl
theorem ti117 : tiOf Tryz.prog 117 = some ⟨1, false, [SC.v (Value.tuple [Value.int IntKind.i64 0, Value.bool false].toArray)], [], 0, 1, 0, IntKind.i64⟩ := by kernel_rfl
def lay0 := And.intro ti0 (And.intro ti2 (And.intro ti3 (And.intro ti4 (And.intro ti5 (And.intro ti9 (And.intro ti23 (And.intro ti24 (And.intro ti26 (And.intro ti27 (And.intro ti30 (And.intro ti31 (And.intro ti33 (And.intro ti36 (And.intro ti38 (And.intro ti52 (And.intro ti57 (And.intro ti60 (And.intro ti62 (ti66)))))))))))))))))))
def lay1 := And.intro ti73 (And.intro ti74 (And.intro ti76 (And.intro ti77 (And.intro ti79 (And.intro ti82 (And.intro ti86 (And.intro ti88 (And.intro ti90 (And.intro ti95 (And.intro ti99 (And.intro ti104 (ti117))))))))))))
def zM := And.intro lay0 (lay1)
set_option linter.defProp false
abbrev kp3 : List Nat := [0, 2, 3, 4, 5, 6, 7, 8, 9, 10, 11, 15, 24, 41, 46, 57]
abbrev kp10 : List Nat := [0, 1, 2, 3, 4, 6, 27]
abbrev kp11 : List Nat := [0, 2, 3, 4, 5, 6, 7, 8, 9, 10, 19, 26, 31, 32, 36, 39, 54]
abbrev kp12 : List Nat := [0, 2, 3, 4, 5, 6, 7, 9, 10, 11, 12, 22, 31, 41, 49, 61, 67]
abbrev kp13 : List Nat := [0, 1, 2, 3, 4, 5, 6, 12, 13, 14, 15, 16, 17, 18, 19, 20, 21, 22, 23, 24, 25, 26, 27, 28, 29, 30, 31, 32, 33, 34, 35, 36, 37, 38, 39, 40, 41, 42, 43, 44, 45, 46, 47, 48, 49, 50, 51, 52, 53, 54, 55, 56, 57, 58, 59, 60, 61, 62, 63, 64, 65, 66, 67, 68, 69, 70, 71, 72, 73, 74, 75, 76, 77, 78, 79, 80, 81, 82, 83, 84, 85, 90, 103]
abbrev kp14 : List Nat := [0, 1, 2, 3, 4, 6, 7, 8, 14, 15, 19, 22, 23, 27, 31, 44, 45, 48, 49, 66, 70, 73, 74, 78, 84, 86, 93, 100, 107, 114, 117, 129, 144, 157, 166]
abbrev kp21 : List Nat := [0, 2, 3, 4, 5, 6, 7, 8, 19, 25]
abbrev kp22 : List Nat := [0, 2, 3, 4, 5, 9, 21, 24]
abbrev kp23 : List Nat := [0, 2]
abbrev kp24 : List Nat := [0, 1, 4, 5, 6, 7, 8, 9, 10, 11, 12, 13, 14, 15, 16, 31, 42, 55, 75, 88, 91, 108, 114, 116, 125, 134]
abbrev kp25 : List Nat := [0, 2, 3, 4, 6, 14]
abbrev kp26 : List Nat := [0, 1, 4]
abbrev kp28 : List Nat := [0, 2, 3, 5, 6, 9, 12, 15, 18]
abbrev kp29 : List Nat := [0, 1, 4, 5, 6, 7, 8, 9, 10, 11, 12, 13, 14, 15, 16, 17, 25, 40, 43, 57, 74, 82, 85, 94, 97, 104, 109, 119]
abbrev kp30 : List Nat := [0, 1, 4, 5, 10, 14, 25]
abbrev kp31 : List Nat := [0, 2]
abbrev kp32 : List Nat := [0, 1, 2, 7]
abbrev kp33 : List Nat := [0, 1, 2]
abbrev kp34 : List Nat := [0, 1, 2, 4]
abbrev kp35 : List Nat := [0, 1, 2, 4, 7]
abbrev kp36 : List Nat := [0, 1, 2, 3, 6, 8, 9, 10, 13, 14, 15, 16, 19, 22, 29, 40, 48, 51, 64, 78, 88, 108, 109, 110, 116]
abbrev kp37 : List Nat := [0, 1, 2, 4, 6, 9, 10, 11, 12, 17]
abbrev kp44 : List Nat := [0, 1, 4]
abbrev kp47 : List Nat := [0, 2, 3, 4, 8, 14, 23]
abbrev kp49 : List Nat := [0, 2, 3, 4, 6, 8, 10]
abbrev kp50 : List Nat := [0, 1, 2, 6, 7, 8, 9, 10, 11, 12, 18, 30, 33, 42, 52]
abbrev kp51 : List Nat := [0, 1, 2, 4, 5, 10, 28]
abbrev kp52 : List Nat := [0, 2, 3, 4, 5, 6, 7, 8, 9, 10, 11, 12, 16, 20, 24, 52, 60, 85]
abbrev kp53 : List Nat := [0, 2, 3, 7, 19]
abbrev kp58 : List Nat := [0, 1, 2, 6, 7, 8, 9, 11, 12, 13, 14, 15, 18, 24, 29]
abbrev kp59 : List Nat := [0, 2, 3, 4, 5, 6, 7, 8, 9, 23, 25, 26, 27, 34, 43, 57]
abbrev kp61 : List Nat := [0, 2]
abbrev kp65 : List Nat := [0, 2, 3, 4, 6, 8, 10, 12]
abbrev kp66 : List Nat := [0, 1, 4, 5, 9, 16]
abbrev kp67 : List Nat := [0, 1, 2, 6, 7, 8, 9, 10, 21, 22, 29, 39, 46, 53, 65, 70, 80, 90, 97]
abbrev kp68 : List Nat := [0, 2, 3, 4, 14, 25, 36, 39]
abbrev kp69 : List Nat := [0, 2, 3, 4, 5, 6, 7, 11, 24, 34, 58, 62]
abbrev kp77 : List Nat := [0, 1, 2, 6, 7, 8, 22, 38, 48, 58, 75, 80, 93, 103, 121]
abbrev kp88 : List Nat := [0, 2, 3, 4, 5, 20]
abbrev kp89 : List Nat := [0, 1, 4, 7, 12, 23, 24, 30, 36, 42, 48]
abbrev kp90 : List Nat := [0, 2, 3, 9, 16, 23]
abbrev kp101 : List Nat := [0, 1, 4, 5, 6, 9, 14]
abbrev kp102 : List Nat := [0, 2, 3, 4, 5]
abbrev res3 : List ResultVar := [ResultVar.tmp 2]
theorem hres3 : Tryz.f3.results.toList = res3 := by kernel_rfl
abbrev res10 : List ResultVar := [ResultVar.tmp 0]
theorem hres10 : Tryz.f10.results.toList = res10 := by kernel_rfl
abbrev res11 : List ResultVar := [ResultVar.cell 2 26, ResultVar.tmp 3]
theorem hres11 : Tryz.f11.results.toList = res11 := by kernel_rfl
abbrev res12 : List ResultVar := [ResultVar.cell 2 26, ResultVar.tmp 3]
theorem hres12 : Tryz.f12.results.toList = res12 := by kernel_rfl
abbrev res13 : List ResultVar := [ResultVar.tmp 4]
theorem hres13 : Tryz.f13.results.toList = res13 := by kernel_rfl
abbrev res14 : List ResultVar := [ResultVar.tmp 6]
theorem hres14 : Tryz.f14.results.toList = res14 := by kernel_rfl
abbrev res21 : List ResultVar := [ResultVar.tmp 2, ResultVar.tmp 3, ResultVar.cell 4 26, ResultVar.tmp 5]
theorem hres21 : Tryz.f21.results.toList = res21 := by kernel_rfl
abbrev res22 : List ResultVar := [ResultVar.tmp 2]
theorem hres22 : Tryz.f22.results.toList = res22 := by kernel_rfl
abbrev res23 : List ResultVar := [ResultVar.cell 2 26]
theorem hres23 : Tryz.f23.results.toList = res23 := by kernel_rfl
abbrev res24 : List ResultVar := [ResultVar.cell 4 26, ResultVar.tmp 5]
theorem hres24 : Tryz.f24.results.toList = res24 := by kernel_rfl
abbrev res25 : List ResultVar := [ResultVar.tmp 2, ResultVar.tmp 3]
theorem hres25 : Tryz.f25.results.toList = res25 := by kernel_rfl
abbrev res26 : List ResultVar := [ResultVar.cell 4 26]
theorem hres26 : Tryz.f26.results.toList = res26 := by kernel_rfl
abbrev res28 : List ResultVar := [ResultVar.cell 2 33, ResultVar.tmp 3]
theorem hres28 : Tryz.f28.results.toList = res28 := by kernel_rfl
abbrev res29 : List ResultVar := [ResultVar.cell 4 26, ResultVar.tmp 5, ResultVar.tmp 6]
theorem hres29 : Tryz.f29.results.toList = res29 := by kernel_rfl
abbrev res30 : List ResultVar := [ResultVar.tmp 4]
theorem hres30 : Tryz.f30.results.toList = res30 := by kernel_rfl
abbrev res31 : List ResultVar := [ResultVar.tmp 2]
theorem hres31 : Tryz.f31.results.toList = res31 := by kernel_rfl
abbrev res32 : List ResultVar := [ResultVar.tmp 2]
theorem hres32 : Tryz.f32.results.toList = res32 := by kernel_rfl
abbrev res33 : List ResultVar := [ResultVar.tmp 2]
theorem hres33 : Tryz.f33.results.toList = res33 := by kernel_rfl
abbrev res34 : List ResultVar := [ResultVar.tmp 2]
theorem hres34 : Tryz.f34.results.toList = res34 := by kernel_rfl
abbrev res35 : List ResultVar := [ResultVar.tmp 4]
theorem hres35 : Tryz.f35.results.toList = res35 := by kernel_rfl
abbrev res36 : List ResultVar := [ResultVar.tmp 6]
theorem hres36 : Tryz.f36.results.toList = res36 := by kernel_rfl
abbrev res37 : List ResultVar := [ResultVar.tmp 4]
theorem hres37 : Tryz.f37.results.toList = res37 := by kernel_rfl
abbrev res44 : List ResultVar := [ResultVar.tmp 4]
theorem hres44 : Tryz.f44.results.toList = res44 := by kernel_rfl
abbrev res47 : List ResultVar := [ResultVar.tmp 2, ResultVar.tmp 3]
theorem hres47 : Tryz.f47.results.toList = res47 := by kernel_rfl
abbrev res49 : List ResultVar := [ResultVar.tmp 2]
theorem hres49 : Tryz.f49.results.toList = res49 := by kernel_rfl
abbrev res50 : List ResultVar := [ResultVar.tmp 6]
theorem hres50 : Tryz.f50.results.toList = res50 := by kernel_rfl
abbrev res51 : List ResultVar := [ResultVar.tmp 4]
theorem hres51 : Tryz.f51.results.toList = res51 := by kernel_rfl
abbrev res52 : List ResultVar := [ResultVar.tmp 2, ResultVar.tmp 3]
theorem hres52 : Tryz.f52.results.toList = res52 := by kernel_rfl
abbrev res53 : List ResultVar := [ResultVar.tmp 2]
theorem hres53 : Tryz.f53.results.toList = res53 := by kernel_rfl
abbrev res58 : List ResultVar := [ResultVar.tmp 6, ResultVar.tmp 7, ResultVar.tmp 8]
theorem hres58 : Tryz.f58.results.toList = res58 := by kernel_rfl
abbrev res59 : List ResultVar := [ResultVar.tmp 2, ResultVar.tmp 3]
theorem hres59 : Tryz.f59.results.toList = res59 := by kernel_rfl
abbrev res61 : List ResultVar := [ResultVar.tmp 2]
theorem hres61 : Tryz.f61.results.toList = res61 := by kernel_rfl
abbrev res65 : List ResultVar := [ResultVar.tmp 2]
theorem hres65 : Tryz.f65.results.toList = res65 := by kernel_rfl
abbrev res66 : List ResultVar := [ResultVar.tmp 4]
theorem hres66 : Tryz.f66.results.toList = res66 := by kernel_rfl
abbrev res67 : List ResultVar := [ResultVar.tmp 6]
theorem hres67 : Tryz.f67.results.toList = res67 := by kernel_rfl
abbrev res68 : List ResultVar := [ResultVar.tmp 2, ResultVar.tmp 3]
theorem hres68 : Tryz.f68.results.toList = res68 := by kernel_rfl
abbrev res69 : List ResultVar := [ResultVar.tmp 2]
theorem hres69 : Tryz.f69.results.toList = res69 := by kernel_rfl
abbrev res77 : List ResultVar := [ResultVar.tmp 6]
theorem hres77 : Tryz.f77.results.toList = res77 := by kernel_rfl
abbrev res88 : List ResultVar := [ResultVar.tmp 2, ResultVar.tmp 3]
theorem hres88 : Tryz.f88.results.toList = res88 := by kernel_rfl
abbrev res89 : List ResultVar := [ResultVar.tmp 4]
theorem hres89 : Tryz.f89.results.toList = res89 := by kernel_rfl
abbrev res90 : List ResultVar := [ResultVar.tmp 2]
theorem hres90 : Tryz.f90.results.toList = res90 := by kernel_rfl
abbrev res101 : List ResultVar := [ResultVar.tmp 4]
theorem hres101 : Tryz.f101.results.toList = res101 := by kernel_rfl
abbrev res102 : List ResultVar := [ResultVar.tmp 2, ResultVar.tmp 3]
theorem hres102 : Tryz.f102.results.toList = res102 := by kernel_rfl
abbrev rs13_7 : List (Nat × Nat) := [(0, 0), (0, 0), (0, 0), (0, 0), (0, 0), (0, 0), (0, 0), (0, 0), (0, 0), (0, 0), (0, 0)]
abbrev rs21_8 : List (Nat × Nat) := [(0, 0), (0, 0), (0, 0), (0, 0), (1, 1)]
abbrev rs24_4 : List (Nat × Nat) := [(0, 0), (0, 0), (0, 0), (0, 0), (0, 0), (0, 0), (0, 0), (0, 0), (0, 0), (0, 0), (0, 0)]
abbrev rs24_18 : List (Nat × Nat) := [(0, 0), (0, 0), (0, 0), (0, 0), (0, 0), (0, 0), (1, 1)]
abbrev rs29_1 : List (Nat × Nat) := [(0, 0), (0, 0), (0, 0), (0, 0), (0, 0), (0, 0), (0, 0)]
abbrev rs29_14 : List (Nat × Nat) := [(0, 0), (0, 0), (0, 0), (0, 0), (0, 0), (0, 0), (0, 0)]
abbrev rs30_6 : List (Nat × Nat) := [(0, 0), (0, 0), (0, 0), (0, 0), (0, 0), (0, 0), (0, 0), (0, 0), (0, 0)]
abbrev rs34_2 : List (Nat × Nat) := [(0, 0), (0, 0), (0, 0), (0, 0), (0, 0), (0, 1), (0, 1), (0, 1), (0, 1), (1, 1), (1, 1), (1, 1)]
abbrev rs58_9 : List (Nat × Nat) := [(0, 0), (0, 0), (0, 0), (0, 0), (0, 0), (0, 0), (1, 1), (1, 1)]
end Go.Proofs.YtlaagebdbcmckaaGreatDoor
