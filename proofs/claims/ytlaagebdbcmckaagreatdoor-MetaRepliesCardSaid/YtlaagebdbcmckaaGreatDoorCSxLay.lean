/- What the program says of its types, and which slots of a function live across its regions (printed by gen_lay.py). -/
import Derived.Test.YtlaagebdbcmckaaGreatDoorBL
import Derived.Test.YtlaagebdbcmckaaGreatDoorProg
namespace Go.Proofs.YtlaagebdbcmckaaGreatDoor
set_option linter.unusedSimpArgs false
set_option linter.unusedVariables false
open Go.RowKit
theorem ti0 : tiOf Tryz.prog 0 = some ⟨1, false, [SC.v (Value.tuple [].toArray)], [], 0, 1, 0, IntKind.i64⟩ := by kernel_rfl
theorem ti1 : tiOf Tryz.prog 1 = some ⟨1, false, [SC.v Value.nilFunc], [], 0, 1, 0, IntKind.i64⟩ := by kernel_rfl
theorem ti2 : tiOf Tryz.prog 2 = some ⟨1, false, [SC.i IntKind.i64 0], [], 0, 1, 1, IntKind.i64⟩ := by kernel_rfl
theorem ti3 : tiOf Tryz.prog 3 = some ⟨1, false, [SC.i IntKind.i64 0], [], 0, 1, 1, IntKind.i64⟩ := by kernel_rfl
theorem ti4 : tiOf Tryz.prog 4 = some ⟨1, false, [SC.b false], [], 0, 1, 7, IntKind.i64⟩ := by kernel_rfl
theorem ti5 : tiOf Tryz.prog 5 = some ⟨1, false, [SC.i IntKind.u8 0], [], 0, 1, 1, IntKind.u8⟩ := by kernel_rfl
theorem ti6 : tiOf Tryz.prog 6 = some ⟨1, false, [SC.i IntKind.u8 0], [], 0, 1, 1, IntKind.u8⟩ := by kernel_rfl
theorem ti7 : tiOf Tryz.prog 7 = some ⟨4, true, [SC.i IntKind.i64 0, SC.i IntKind.i64 0, SC.b false, SC.i IntKind.u8 0], [(0, 1, false), (1, 1, false), (2, 1, false), (3, 1, false)], 0, 1, 4, IntKind.i64⟩ := by kernel_rfl
theorem ti8 : tiOf Tryz.prog 8 = some ⟨4, true, [SC.i IntKind.i64 0, SC.i IntKind.i64 0, SC.b false, SC.i IntKind.u8 0], [(0, 1, false), (1, 1, false), (2, 1, false), (3, 1, false)], 0, 1, 4, IntKind.i64⟩ := by kernel_rfl
theorem ti9 : tiOf Tryz.prog 9 = some ⟨1, false, [SC.s []], [], 0, 1, 2, IntKind.i64⟩ := by kernel_rfl
theorem ti10 : tiOf Tryz.prog 10 = some ⟨1, false, [SC.s []], [], 0, 1, 2, IntKind.i64⟩ := by kernel_rfl
theorem ti11 : tiOf Tryz.prog 11 = some ⟨1, false, [SC.s []], [], 0, 1, 2, IntKind.i64⟩ := by kernel_rfl
theorem ti12 : tiOf Tryz.prog 12 = some ⟨1, false, [SC.i IntKind.u64 0], [], 0, 1, 1, IntKind.u64⟩ := by kernel_rfl
theorem ti13 : tiOf Tryz.prog 13 = some ⟨2, true, [SC.s [], SC.i IntKind.u64 0], [(0, 1, false), (1, 1, false)], 0, 1, 4, IntKind.i64⟩ := by kernel_rfl
theorem ti14 : tiOf Tryz.prog 14 = some ⟨2, true, [SC.s [], SC.i IntKind.u64 0], [(0, 1, false), (1, 1, false)], 0, 1, 4, IntKind.i64⟩ := by kernel_rfl
theorem ti15 : tiOf Tryz.prog 15 = some ⟨1, false, [SC.v (Value.pointer none)], [], 170, 4, 6, IntKind.i64⟩ := by kernel_rfl
theorem ti16 : tiOf Tryz.prog 16 = some ⟨1, false, [SC.v (Value.pointer none)], [], 173, 0, 6, IntKind.i64⟩ := by kernel_rfl
theorem ti17 : tiOf Tryz.prog 17 = some ⟨1, false, [SC.v (Value.pointer none)], [], 180, 11, 6, IntKind.i64⟩ := by kernel_rfl
theorem ti18 : tiOf Tryz.prog 18 = some ⟨1, true, [SC.v (Value.pointer none)], [(0, 1, false)], 0, 1, 4, IntKind.i64⟩ := by kernel_rfl
theorem ti19 : tiOf Tryz.prog 19 = some ⟨1, true, [SC.v (Value.pointer none)], [(0, 1, false)], 0, 1, 4, IntKind.i64⟩ := by kernel_rfl
theorem ti20 : tiOf Tryz.prog 20 = some ⟨1, false, [SC.v Value.nilIface], [], 0, 1, 8, IntKind.i64⟩ := by kernel_rfl
theorem ti21 : tiOf Tryz.prog 21 = some ⟨1, false, [SC.i IntKind.i32 0], [], 0, 1, 1, IntKind.i32⟩ := by kernel_rfl
theorem ti22 : tiOf Tryz.prog 22 = some ⟨1, false, [SC.v Value.nilFunc], [], 0, 1, 0, IntKind.i64⟩ := by kernel_rfl
theorem ti23 : tiOf Tryz.prog 23 = some ⟨1, false, [SC.v (Value.slice none 0 0)], [], 33, 16, 3, IntKind.i64⟩ := by kernel_rfl
theorem ti24 : tiOf Tryz.prog 24 = some ⟨1, false, [SC.v (Value.slice none 0 0)], [], 9, 1, 3, IntKind.i64⟩ := by kernel_rfl
theorem ti25 : tiOf Tryz.prog 25 = some ⟨11, true, [SC.i IntKind.i64 0, SC.v (Value.slice none 0 0), SC.b false, SC.b false, SC.s [], SC.s [], SC.i IntKind.i64 0, SC.b false, SC.s [], SC.v (Value.slice none 0 0), SC.s []], [(0, 1, false), (1, 1, false), (2, 1, false), (3, 1, false), (4, 1, false), (5, 1, false), (6, 1, false), (7, 1, false), (8, 1, false), (9, 1, false), (10, 1, false)], 0, 1, 4, IntKind.i64⟩ := by kernel_rfl
theorem ti26 : tiOf Tryz.prog 26 = some ⟨11, true, [SC.i IntKind.i64 0, SC.v (Value.slice none 0 0), SC.b false, SC.b false, SC.s [], SC.s [], SC.i IntKind.i64 0, SC.b false, SC.s [], SC.v (Value.slice none 0 0), SC.s []], [(0, 1, false), (1, 1, false), (2, 1, false), (3, 1, false), (4, 1, false), (5, 1, false), (6, 1, false), (7, 1, false), (8, 1, false), (9, 1, false), (10, 1, false)], 0, 1, 4, IntKind.i64⟩ := by kernel_rfl
theorem ti27 : tiOf Tryz.prog 27 = some ⟨1, false, [SC.v (Value.tuple { toList := [Value.agg { toList := [Value.int IntKind.i64 0, Value.slice none 0 0, Value.bool false, Value.bool false, Value.string { data := [].toArray }, Value.string { data := [].toArray }, Value.int IntKind.i64 0, Value.bool false, Value.string { data := [].toArray }, Value.slice none 0 0, Value.string { data := [].toArray }] }, Value.int IntKind.i64 0] })], [], 0, 1, 0, IntKind.i64⟩ := by kernel_rfl
theorem ti28 : tiOf Tryz.prog 28 = some ⟨1, false, [SC.v Value.nilFunc], [], 0, 1, 0, IntKind.i64⟩ := by kernel_rfl
theorem ti29 : tiOf Tryz.prog 29 = some ⟨1, false, [SC.v Value.nilFunc], [], 0, 1, 0, IntKind.i64⟩ := by kernel_rfl
theorem ti30 : tiOf Tryz.prog 30 = some ⟨1, false, [SC.i IntKind.u32 0], [], 0, 1, 1, IntKind.u32⟩ := by kernel_rfl
theorem ti31 : tiOf Tryz.prog 31 = some ⟨1, false, [SC.i IntKind.u64 0], [], 0, 1, 1, IntKind.u64⟩ := by kernel_rfl
theorem ti32 : tiOf Tryz.prog 32 = some ⟨16, true, [SC.i IntKind.i64 0, SC.i IntKind.i64 0, SC.s [], SC.s [], SC.i IntKind.u32 0, SC.i IntKind.i64 0, SC.b false, SC.i IntKind.u64 0, SC.b false, SC.i IntKind.u64 0, SC.i IntKind.u64 0, SC.b false, SC.b false, SC.i IntKind.i64 0, SC.i IntKind.i64 0, SC.b false], [(0, 1, false), (1, 1, false), (2, 1, false), (3, 1, false), (4, 1, false), (5, 1, false), (6, 1, false), (7, 1, false), (8, 1, false), (9, 1, false), (10, 1, false), (11, 1, false), (12, 1, false), (13, 1, false), (14, 1, false), (15, 1, false)], 0, 1, 4, IntKind.i64⟩ := by kernel_rfl
theorem ti33 : tiOf Tryz.prog 33 = some ⟨16, true, [SC.i IntKind.i64 0, SC.i IntKind.i64 0, SC.s [], SC.s [], SC.i IntKind.u32 0, SC.i IntKind.i64 0, SC.b false, SC.i IntKind.u64 0, SC.b false, SC.i IntKind.u64 0, SC.i IntKind.u64 0, SC.b false, SC.b false, SC.i IntKind.i64 0, SC.i IntKind.i64 0, SC.b false], [(0, 1, false), (1, 1, false), (2, 1, false), (3, 1, false), (4, 1, false), (5, 1, false), (6, 1, false), (7, 1, false), (8, 1, false), (9, 1, false), (10, 1, false), (11, 1, false), (12, 1, false), (13, 1, false), (14, 1, false), (15, 1, false)], 0, 1, 4, IntKind.i64⟩ := by kernel_rfl
theorem ti34 : tiOf Tryz.prog 34 = some ⟨1, false, [SC.v Value.nilFunc], [], 0, 1, 0, IntKind.i64⟩ := by kernel_rfl
theorem ti35 : tiOf Tryz.prog 35 = some ⟨8, true, [SC.s [], SC.i IntKind.u32 0, SC.s [], SC.i IntKind.i64 0, SC.i IntKind.u64 0, SC.i IntKind.i64 0, SC.b false, SC.b false], [(0, 1, false), (1, 1, false), (2, 1, false), (3, 1, false), (4, 1, false), (5, 1, false), (6, 1, false), (7, 1, false)], 0, 1, 4, IntKind.i64⟩ := by kernel_rfl
theorem ti36 : tiOf Tryz.prog 36 = some ⟨8, true, [SC.s [], SC.i IntKind.u32 0, SC.s [], SC.i IntKind.i64 0, SC.i IntKind.u64 0, SC.i IntKind.i64 0, SC.b false, SC.b false], [(0, 1, false), (1, 1, false), (2, 1, false), (3, 1, false), (4, 1, false), (5, 1, false), (6, 1, false), (7, 1, false)], 0, 1, 4, IntKind.i64⟩ := by kernel_rfl
theorem ti37 : tiOf Tryz.prog 37 = some ⟨13, true, [SC.i IntKind.i64 0, SC.s [], SC.i IntKind.u32 0, SC.s [], SC.i IntKind.i64 0, SC.i IntKind.u64 0, SC.i IntKind.i64 0, SC.b false, SC.b false, SC.i IntKind.u64 0, SC.b false, SC.b false, SC.b false], [(0, 1, false), (1, 8, true), (9, 1, false), (10, 1, false), (11, 1, false), (12, 1, false)], 0, 1, 4, IntKind.i64⟩ := by kernel_rfl
theorem ti38 : tiOf Tryz.prog 38 = some ⟨13, true, [SC.i IntKind.i64 0, SC.s [], SC.i IntKind.u32 0, SC.s [], SC.i IntKind.i64 0, SC.i IntKind.u64 0, SC.i IntKind.i64 0, SC.b false, SC.b false, SC.i IntKind.u64 0, SC.b false, SC.b false, SC.b false], [(0, 1, false), (1, 8, true), (9, 1, false), (10, 1, false), (11, 1, false), (12, 1, false)], 0, 1, 4, IntKind.i64⟩ := by kernel_rfl
theorem ti39 : tiOf Tryz.prog 39 = some ⟨1, false, [SC.v Value.nilFunc], [], 0, 1, 0, IntKind.i64⟩ := by kernel_rfl
theorem ti40 : tiOf Tryz.prog 40 = some ⟨1, false, [SC.v Value.nilFunc], [], 0, 1, 0, IntKind.i64⟩ := by kernel_rfl
theorem ti41 : tiOf Tryz.prog 41 = some ⟨1, false, [SC.v Value.nilFunc], [], 0, 1, 0, IntKind.i64⟩ := by kernel_rfl
theorem ti42 : tiOf Tryz.prog 42 = some ⟨1, false, [SC.v Value.nilFunc], [], 0, 1, 0, IntKind.i64⟩ := by kernel_rfl
theorem ti43 : tiOf Tryz.prog 43 = some ⟨1, false, [SC.v Value.nilFunc], [], 0, 1, 0, IntKind.i64⟩ := by kernel_rfl
theorem ti44 : tiOf Tryz.prog 44 = some ⟨1, false, [SC.v Value.nilFunc], [], 0, 1, 0, IntKind.i64⟩ := by kernel_rfl
theorem ti45 : tiOf Tryz.prog 45 = some ⟨1, false, [SC.v Value.nilFunc], [], 0, 1, 0, IntKind.i64⟩ := by kernel_rfl
theorem ti46 : tiOf Tryz.prog 46 = some ⟨1, false, [SC.v (Value.slice none 0 0)], [], 3, 1, 3, IntKind.i64⟩ := by kernel_rfl
theorem ti47 : tiOf Tryz.prog 47 = some ⟨1, false, [SC.v Value.nilFunc], [], 0, 1, 0, IntKind.i64⟩ := by kernel_rfl
theorem ti48 : tiOf Tryz.prog 48 = some ⟨4, true, [SC.b false, SC.b false, SC.b false, SC.b false], [], 4, 1, 5, IntKind.i64⟩ := by kernel_rfl
theorem ti49 : tiOf Tryz.prog 49 = some ⟨1, false, [SC.v Value.nilFunc], [], 0, 1, 0, IntKind.i64⟩ := by kernel_rfl
theorem ti50 : tiOf Tryz.prog 50 = some ⟨1, false, [SC.v Value.nilFunc], [], 0, 1, 0, IntKind.i64⟩ := by kernel_rfl
theorem ti51 : tiOf Tryz.prog 51 = some ⟨1, false, [SC.v Value.nilFunc], [], 0, 1, 0, IntKind.i64⟩ := by kernel_rfl
theorem ti52 : tiOf Tryz.prog 52 = some ⟨1, false, [SC.v (Value.tuple { toList := [Value.string { data := [].toArray }, Value.int IntKind.i64 0, Value.agg { toList := [Value.int IntKind.i64 0, Value.slice none 0 0, Value.bool false, Value.bool false, Value.string { data := [].toArray }, Value.string { data := [].toArray }, Value.int IntKind.i64 0, Value.bool false, Value.string { data := [].toArray }, Value.slice none 0 0, Value.string { data := [].toArray }] }, Value.bool false] })], [], 0, 1, 0, IntKind.i64⟩ := by kernel_rfl
theorem ti53 : tiOf Tryz.prog 53 = some ⟨1, false, [SC.v Value.nilFunc], [], 0, 1, 0, IntKind.i64⟩ := by kernel_rfl
theorem ti54 : tiOf Tryz.prog 54 = some ⟨1, false, [SC.v Value.nilFunc], [], 0, 1, 0, IntKind.i64⟩ := by kernel_rfl
theorem ti55 : tiOf Tryz.prog 55 = some ⟨1, false, [SC.v Value.nilFunc], [], 0, 1, 0, IntKind.i64⟩ := by kernel_rfl
theorem ti56 : tiOf Tryz.prog 56 = some ⟨1, false, [SC.v Value.nilFunc], [], 0, 1, 0, IntKind.i64⟩ := by kernel_rfl
theorem ti57 : tiOf Tryz.prog 57 = some ⟨1, false, [SC.v (Value.tuple { toList := [Value.string { data := [].toArray }, Value.int IntKind.i64 0] })], [], 0, 1, 0, IntKind.i64⟩ := by kernel_rfl
theorem ti58 : tiOf Tryz.prog 58 = some ⟨1, false, [SC.v Value.nilFunc], [], 0, 1, 0, IntKind.i64⟩ := by kernel_rfl
theorem ti59 : tiOf Tryz.prog 59 = some ⟨1, false, [SC.v Value.nilFunc], [], 0, 1, 0, IntKind.i64⟩ := by kernel_rfl
theorem ti60 : tiOf Tryz.prog 60 = some ⟨1, false, [SC.v (Value.tuple { toList := [Value.agg { toList := [Value.int IntKind.i64 0, Value.int IntKind.i64 0, Value.string { data := [].toArray }, Value.string { data := [].toArray }, Value.int IntKind.u32 0, Value.int IntKind.i64 0, Value.bool false, Value.int IntKind.u64 0, Value.bool false, Value.int IntKind.u64 0, Value.int IntKind.u64 0, Value.bool false, Value.bool false, Value.int IntKind.i64 0, Value.int IntKind.i64 0, Value.bool false] }, Value.string { data := [].toArray }] })], [], 0, 1, 0, IntKind.i64⟩ := by kernel_rfl
theorem ti61 : tiOf Tryz.prog 61 = some ⟨1, false, [SC.v Value.nilFunc], [], 0, 1, 0, IntKind.i64⟩ := by kernel_rfl
theorem ti62 : tiOf Tryz.prog 62 = some ⟨1, false, [SC.v (Value.tuple { toList := [Value.agg { toList := [Value.int IntKind.i64 0, Value.slice none 0 0, Value.bool false, Value.bool false, Value.string { data := [].toArray }, Value.string { data := [].toArray }, Value.int IntKind.i64 0, Value.bool false, Value.string { data := [].toArray }, Value.slice none 0 0, Value.string { data := [].toArray }] }, Value.int IntKind.i64 0, Value.bool false] })], [], 0, 1, 0, IntKind.i64⟩ := by kernel_rfl
theorem ti63 : tiOf Tryz.prog 63 = some ⟨1, false, [SC.v Value.nilFunc], [], 0, 1, 0, IntKind.i64⟩ := by kernel_rfl
theorem ti64 : tiOf Tryz.prog 64 = some ⟨1, false, [SC.v Value.nilFunc], [], 0, 1, 0, IntKind.i64⟩ := by kernel_rfl
theorem ti65 : tiOf Tryz.prog 65 = some ⟨25, true, [SC.i IntKind.i64 0, SC.v (Value.slice none 0 0), SC.b false, SC.b false, SC.s [], SC.s [], SC.i IntKind.i64 0, SC.b false, SC.s [], SC.v (Value.slice none 0 0), SC.s [], SC.i IntKind.i64 0, SC.s [], SC.i IntKind.u32 0, SC.s [], SC.i IntKind.i64 0, SC.i IntKind.u64 0, SC.i IntKind.i64 0, SC.b false, SC.b false, SC.i IntKind.u64 0, SC.b false, SC.b false, SC.b false, SC.i IntKind.i64 0], [(0, 11, true), (11, 13, true), (24, 1, false)], 0, 1, 4, IntKind.i64⟩ := by kernel_rfl
theorem ti66 : tiOf Tryz.prog 66 = some ⟨25, true, [SC.i IntKind.i64 0, SC.v (Value.slice none 0 0), SC.b false, SC.b false, SC.s [], SC.s [], SC.i IntKind.i64 0, SC.b false, SC.s [], SC.v (Value.slice none 0 0), SC.s [], SC.i IntKind.i64 0, SC.s [], SC.i IntKind.u32 0, SC.s [], SC.i IntKind.i64 0, SC.i IntKind.u64 0, SC.i IntKind.i64 0, SC.b false, SC.b false, SC.i IntKind.u64 0, SC.b false, SC.b false, SC.b false, SC.i IntKind.i64 0], [(0, 11, true), (11, 13, true), (24, 1, false)], 0, 1, 4, IntKind.i64⟩ := by kernel_rfl
theorem ti67 : tiOf Tryz.prog 67 = some ⟨1, false, [SC.v Value.nilFunc], [], 0, 1, 0, IntKind.i64⟩ := by kernel_rfl
theorem ti68 : tiOf Tryz.prog 68 = some ⟨1, false, [SC.v Value.nilFunc], [], 0, 1, 0, IntKind.i64⟩ := by kernel_rfl
theorem ti69 : tiOf Tryz.prog 69 = some ⟨1, false, [SC.v Value.nilFunc], [], 0, 1, 0, IntKind.i64⟩ := by kernel_rfl
theorem ti70 : tiOf Tryz.prog 70 = some ⟨1, false, [SC.v Value.nilFunc], [], 0, 1, 0, IntKind.i64⟩ := by kernel_rfl
theorem ti71 : tiOf Tryz.prog 71 = some ⟨1, false, [SC.v Value.nilFunc], [], 0, 1, 0, IntKind.i64⟩ := by kernel_rfl
theorem ti72 : tiOf Tryz.prog 72 = some ⟨1, false, [SC.v Value.nilFunc], [], 0, 1, 0, IntKind.i64⟩ := by kernel_rfl
theorem ti73 : tiOf Tryz.prog 73 = some ⟨1, false, [SC.v (Value.slice none 0 0)], [], 5, 1, 3, IntKind.i64⟩ := by kernel_rfl
theorem ti74 : tiOf Tryz.prog 74 = some ⟨1, false, [SC.v (Value.pointer none)], [], 76, 2, 6, IntKind.i64⟩ := by kernel_rfl
theorem ti75 : tiOf Tryz.prog 75 = some ⟨2, true, [SC.v (Value.pointer none), SC.v (Value.slice none 0 0)], [(0, 1, false), (1, 1, false)], 0, 1, 4, IntKind.i64⟩ := by kernel_rfl
theorem ti76 : tiOf Tryz.prog 76 = some ⟨2, true, [SC.v (Value.pointer none), SC.v (Value.slice none 0 0)], [(0, 1, false), (1, 1, false)], 0, 1, 4, IntKind.i64⟩ := by kernel_rfl
theorem ti77 : tiOf Tryz.prog 77 = some ⟨1, false, [SC.i IntKind.u64 0], [], 0, 1, 1, IntKind.u64⟩ := by kernel_rfl
theorem ti78 : tiOf Tryz.prog 78 = some ⟨1, false, [SC.v Value.nilIface], [], 0, 1, 8, IntKind.i64⟩ := by kernel_rfl
theorem ti79 : tiOf Tryz.prog 79 = some ⟨1, false, [SC.v Value.nilIface], [], 0, 1, 8, IntKind.i64⟩ := by kernel_rfl
theorem ti80 : tiOf Tryz.prog 80 = some ⟨1, false, [SC.v Value.nilFunc], [], 0, 1, 0, IntKind.i64⟩ := by kernel_rfl
theorem ti81 : tiOf Tryz.prog 81 = some ⟨1, false, [SC.v Value.nilFunc], [], 0, 1, 0, IntKind.i64⟩ := by kernel_rfl
theorem ti82 : tiOf Tryz.prog 82 = some ⟨1, false, [SC.v (Value.tuple [Value.int IntKind.u64 0, Value.bool false].toArray)], [], 0, 1, 0, IntKind.i64⟩ := by kernel_rfl
theorem ti83 : tiOf Tryz.prog 83 = some ⟨1, false, [SC.v Value.nilFunc], [], 0, 1, 0, IntKind.i64⟩ := by kernel_rfl
theorem ti84 : tiOf Tryz.prog 84 = some ⟨1, false, [SC.v Value.nilFunc], [], 0, 1, 0, IntKind.i64⟩ := by kernel_rfl
theorem ti85 : tiOf Tryz.prog 85 = some ⟨1, false, [SC.v Value.nilFunc], [], 0, 1, 0, IntKind.i64⟩ := by kernel_rfl
theorem ti86 : tiOf Tryz.prog 86 = some ⟨1, false, [SC.v (Value.pointer none)], [], 33, 16, 6, IntKind.i64⟩ := by kernel_rfl
theorem ti87 : tiOf Tryz.prog 87 = some ⟨1, false, [SC.v Value.nilFunc], [], 0, 1, 0, IntKind.i64⟩ := by kernel_rfl
theorem ti88 : tiOf Tryz.prog 88 = some ⟨1, false, [SC.v (Value.tuple { toList := [Value.string { data := [].toArray }, Value.bool false] })], [], 0, 1, 0, IntKind.i64⟩ := by kernel_rfl
theorem ti89 : tiOf Tryz.prog 89 = some ⟨1, false, [SC.v Value.nilFunc], [], 0, 1, 0, IntKind.i64⟩ := by kernel_rfl
theorem ti90 : tiOf Tryz.prog 90 = some ⟨1, false, [SC.v (Value.tuple { toList := [Value.string { data := [].toArray }, Value.string { data := [].toArray }, Value.bool false] })], [], 0, 1, 0, IntKind.i64⟩ := by kernel_rfl
theorem ti91 : tiOf Tryz.prog 91 = some ⟨1, false, [SC.v Value.nilFunc], [], 0, 1, 0, IntKind.i64⟩ := by kernel_rfl
theorem ti92 : tiOf Tryz.prog 92 = some ⟨1, false, [SC.v Value.nilFunc], [], 0, 1, 0, IntKind.i64⟩ := by kernel_rfl
theorem ti93 : tiOf Tryz.prog 93 = some ⟨1, false, [SC.v Value.nilFunc], [], 0, 1, 0, IntKind.i64⟩ := by kernel_rfl
theorem ti94 : tiOf Tryz.prog 94 = some ⟨1, false, [SC.v Value.nilFunc], [], 0, 1, 0, IntKind.i64⟩ := by kernel_rfl
theorem ti95 : tiOf Tryz.prog 95 = some ⟨1, false, [SC.v (Value.tuple { toList := [Value.string { data := [].toArray }, Value.bool false, Value.bool false] })], [], 0, 1, 0, IntKind.i64⟩ := by kernel_rfl
theorem ti96 : tiOf Tryz.prog 96 = some ⟨1, false, [SC.v Value.nilFunc], [], 0, 1, 0, IntKind.i64⟩ := by kernel_rfl
theorem ti97 : tiOf Tryz.prog 97 = some ⟨1, false, [SC.v Value.nilFunc], [], 0, 1, 0, IntKind.i64⟩ := by kernel_rfl
theorem ti98 : tiOf Tryz.prog 98 = some ⟨1, false, [SC.v Value.nilFunc], [], 0, 1, 0, IntKind.i64⟩ := by kernel_rfl
theorem ti99 : tiOf Tryz.prog 99 = some ⟨3, true, [SC.b false, SC.b false, SC.b false], [], 4, 1, 5, IntKind.i64⟩ := by kernel_rfl
theorem ti100 : tiOf Tryz.prog 100 = some ⟨1, false, [SC.v Value.nilFunc], [], 0, 1, 0, IntKind.i64⟩ := by kernel_rfl
theorem ti101 : tiOf Tryz.prog 101 = some ⟨1, false, [SC.v (Value.pointer none)], [], 5, 1, 6, IntKind.i64⟩ := by kernel_rfl
theorem ti102 : tiOf Tryz.prog 102 = some ⟨1, false, [SC.v Value.nilFunc], [], 0, 1, 0, IntKind.i64⟩ := by kernel_rfl
theorem ti103 : tiOf Tryz.prog 103 = some ⟨1, false, [SC.v Value.nilFunc], [], 0, 1, 0, IntKind.i64⟩ := by kernel_rfl
theorem ti104 : tiOf Tryz.prog 104 = some ⟨1, false, [SC.v (Value.tuple [Value.int IntKind.u32 0, Value.bool false].toArray)], [], 0, 1, 0, IntKind.i64⟩ := by kernel_rfl
theorem ti105 : tiOf Tryz.prog 105 = some ⟨1, false, [SC.v Value.nilFunc], [], 0, 1, 0, IntKind.i64⟩ := by kernel_rfl
theorem ti106 : tiOf Tryz.prog 106 = some ⟨1, false, [SC.v (Value.tuple [Value.int IntKind.u64 0, Value.nilIface].toArray)], [], 0, 1, 0, IntKind.i64⟩ := by kernel_rfl
theorem ti107 : tiOf Tryz.prog 107 = some ⟨1, false, [SC.v Value.nilFunc], [], 0, 1, 0, IntKind.i64⟩ := by kernel_rfl
theorem ti108 : tiOf Tryz.prog 108 = some ⟨1, false, [SC.v Value.nilFunc], [], 0, 1, 0, IntKind.i64⟩ := by kernel_rfl
theorem ti109 : tiOf Tryz.prog 109 = some ⟨1, false, [SC.v Value.nilFunc], [], 0, 1, 0, IntKind.i64⟩ := by kernel_rfl
theorem ti110 : tiOf Tryz.prog 110 = some ⟨24, true, [SC.i IntKind.u8 0, SC.i IntKind.u8 0, SC.i IntKind.u8 0, SC.i IntKind.u8 0, SC.i IntKind.u8 0, SC.i IntKind.u8 0, SC.i IntKind.u8 0, SC.i IntKind.u8 0, SC.i IntKind.u8 0, SC.i IntKind.u8 0, SC.i IntKind.u8 0, SC.i IntKind.u8 0, SC.i IntKind.u8 0, SC.i IntKind.u8 0, SC.i IntKind.u8 0, SC.i IntKind.u8 0, SC.i IntKind.u8 0, SC.i IntKind.u8 0, SC.i IntKind.u8 0, SC.i IntKind.u8 0, SC.i IntKind.u8 0, SC.i IntKind.u8 0, SC.i IntKind.u8 0, SC.i IntKind.u8 0], [], 5, 1, 5, IntKind.i64⟩ := by kernel_rfl
theorem ti111 : tiOf Tryz.prog 111 = some ⟨1, false, [SC.v Value.nilFunc], [], 0, 1, 0, IntKind.i64⟩ := by kernel_rfl
theorem ti112 : tiOf Tryz.prog 112 = some ⟨1, false, [SC.v Value.nilFunc], [], 0, 1, 0, IntKind.i64⟩ := by kernel_rfl
theorem ti113 : tiOf Tryz.prog 113 = some ⟨1, false, [SC.v (Value.tuple { toList := [Value.slice none 0 0, Value.string { data := [].toArray }] })], [], 0, 1, 0, IntKind.i64⟩ := by kernel_rfl
theorem ti114 : tiOf Tryz.prog 114 = some ⟨1, false, [SC.v Value.nilFunc], [], 0, 1, 0, IntKind.i64⟩ := by kernel_rfl
theorem ti115 : tiOf Tryz.prog 115 = some ⟨1, false, [SC.v (Value.pointer none)], [], 0, 1, 0, IntKind.i64⟩ := by kernel_rfl
theorem ti116 : tiOf Tryz.prog 116 = some ⟨1, false, [SC.v Value.nilFunc], [], 0, 1, 0, IntKind.i64⟩ := by kernel_rfl
theorem ti117 : tiOf Tryz.prog 117 = some ⟨1, false, [SC.v (Value.tuple [Value.int IntKind.i64 0, Value.bool false].toArray)], [], 0, 1, 0, IntKind.i64⟩ := by kernel_rfl
theorem ti118 : tiOf Tryz.prog 118 = some ⟨1, false, [SC.v Value.nilFunc], [], 0, 1, 0, IntKind.i64⟩ := by kernel_rfl
theorem ti119 : tiOf Tryz.prog 119 = some ⟨1, false, [SC.v Value.nilFunc], [], 0, 1, 0, IntKind.i64⟩ := by kernel_rfl
theorem ti120 : tiOf Tryz.prog 120 = some ⟨1, false, [SC.v Value.nilFunc], [], 0, 1, 0, IntKind.i64⟩ := by kernel_rfl
theorem ti121 : tiOf Tryz.prog 121 = some ⟨1, false, [SC.v Value.nilFunc], [], 0, 1, 0, IntKind.i64⟩ := by kernel_rfl
theorem ti122 : tiOf Tryz.prog 122 = some ⟨1, false, [SC.v Value.nilFunc], [], 0, 1, 0, IntKind.i64⟩ := by kernel_rfl
theorem ti123 : tiOf Tryz.prog 123 = some ⟨256, true, [SC.b false, SC.b false, SC.b false, SC.b false, SC.b false, SC.b false, SC.b false, SC.b false, SC.b false, SC.b false, SC.b false, SC.b false, SC.b false, SC.b false, SC.b false, SC.b false, SC.b false, SC.b false, SC.b false, SC.b false, SC.b false, SC.b false, SC.b false, SC.b false, SC.b false, SC.b false, SC.b false, SC.b false, SC.b false, SC.b false, SC.b false, SC.b false, SC.b false, SC.b false, SC.b false, SC.b false, SC.b false, SC.b false, SC.b false, SC.b false, SC.b false, SC.b false, SC.b false, SC.b false, SC.b false, SC.b false, SC.b false, SC.b false, SC.b false, SC.b false, SC.b false, SC.b false, SC.b false, SC.b false, SC.b false, SC.b false, SC.b false, SC.b false, SC.b false, SC.b false, SC.b false, SC.b false, SC.b false, SC.b false, SC.b false, SC.b false, SC.b false, SC.b false, SC.b false, SC.b false, SC.b false, SC.b false, SC.b false, SC.b false, SC.b false, SC.b false, SC.b false, SC.b false, SC.b false, SC.b false, SC.b false, SC.b false, SC.b false, SC.b false, SC.b false, SC.b false, SC.b false, SC.b false, SC.b false, SC.b false, SC.b false, SC.b false, SC.b false, SC.b false, SC.b false, SC.b false, SC.b false, SC.b false, SC.b false, SC.b false, SC.b false, SC.b false, SC.b false, SC.b false, SC.b false, SC.b false, SC.b false, SC.b false, SC.b false, SC.b false, SC.b false, SC.b false, SC.b false, SC.b false, SC.b false, SC.b false, SC.b false, SC.b false, SC.b false, SC.b false, SC.b false, SC.b false, SC.b false, SC.b false, SC.b false, SC.b false, SC.b false, SC.b false, SC.b false, SC.b false, SC.b false, SC.b false, SC.b false, SC.b false, SC.b false, SC.b false, SC.b false, SC.b false, SC.b false, SC.b false, SC.b false, SC.b false, SC.b false, SC.b false, SC.b false, SC.b false, SC.b false, SC.b false, SC.b false, SC.b false, SC.b false, SC.b false, SC.b false, SC.b false, SC.b false, SC.b false, SC.b false, SC.b false, SC.b false, SC.b false, SC.b false, SC.b false, SC.b false, SC.b false, SC.b false, SC.b false, SC.b false, SC.b false, SC.b false, SC.b false, SC.b false, SC.b false, SC.b false, SC.b false, SC.b false, SC.b false, SC.b false, SC.b false, SC.b false, SC.b false, SC.b false, SC.b false, SC.b false, SC.b false, SC.b false, SC.b false, SC.b false, SC.b false, SC.b false, SC.b false, SC.b false, SC.b false, SC.b false, SC.b false, SC.b false, SC.b false, SC.b false, SC.b false, SC.b false, SC.b false, SC.b false, SC.b false, SC.b false, SC.b false, SC.b false, SC.b false, SC.b false, SC.b false, SC.b false, SC.b false, SC.b false, SC.b false, SC.b false, SC.b false, SC.b false, SC.b false, SC.b false, SC.b false, SC.b false, SC.b false, SC.b false, SC.b false, SC.b false, SC.b false, SC.b false, SC.b false, SC.b false, SC.b false, SC.b false, SC.b false, SC.b false, SC.b false, SC.b false, SC.b false, SC.b false, SC.b false, SC.b false, SC.b false, SC.b false, SC.b false, SC.b false, SC.b false, SC.b false, SC.b false, SC.b false, SC.b false, SC.b false, SC.b false, SC.b false, SC.b false, SC.b false, SC.b false, SC.b false, SC.b false, SC.b false, SC.b false], [], 4, 1, 5, IntKind.i64⟩ := by kernel_rfl
theorem ti124 : tiOf Tryz.prog 124 = some ⟨256, true, [SC.b false, SC.b false, SC.b false, SC.b false, SC.b false, SC.b false, SC.b false, SC.b false, SC.b false, SC.b false, SC.b false, SC.b false, SC.b false, SC.b false, SC.b false, SC.b false, SC.b false, SC.b false, SC.b false, SC.b false, SC.b false, SC.b false, SC.b false, SC.b false, SC.b false, SC.b false, SC.b false, SC.b false, SC.b false, SC.b false, SC.b false, SC.b false, SC.b false, SC.b false, SC.b false, SC.b false, SC.b false, SC.b false, SC.b false, SC.b false, SC.b false, SC.b false, SC.b false, SC.b false, SC.b false, SC.b false, SC.b false, SC.b false, SC.b false, SC.b false, SC.b false, SC.b false, SC.b false, SC.b false, SC.b false, SC.b false, SC.b false, SC.b false, SC.b false, SC.b false, SC.b false, SC.b false, SC.b false, SC.b false, SC.b false, SC.b false, SC.b false, SC.b false, SC.b false, SC.b false, SC.b false, SC.b false, SC.b false, SC.b false, SC.b false, SC.b false, SC.b false, SC.b false, SC.b false, SC.b false, SC.b false, SC.b false, SC.b false, SC.b false, SC.b false, SC.b false, SC.b false, SC.b false, SC.b false, SC.b false, SC.b false, SC.b false, SC.b false, SC.b false, SC.b false, SC.b false, SC.b false, SC.b false, SC.b false, SC.b false, SC.b false, SC.b false, SC.b false, SC.b false, SC.b false, SC.b false, SC.b false, SC.b false, SC.b false, SC.b false, SC.b false, SC.b false, SC.b false, SC.b false, SC.b false, SC.b false, SC.b false, SC.b false, SC.b false, SC.b false, SC.b false, SC.b false, SC.b false, SC.b false, SC.b false, SC.b false, SC.b false, SC.b false, SC.b false, SC.b false, SC.b false, SC.b false, SC.b false, SC.b false, SC.b false, SC.b false, SC.b false, SC.b false, SC.b false, SC.b false, SC.b false, SC.b false, SC.b false, SC.b false, SC.b false, SC.b false, SC.b false, SC.b false, SC.b false, SC.b false, SC.b false, SC.b false, SC.b false, SC.b false, SC.b false, SC.b false, SC.b false, SC.b false, SC.b false, SC.b false, SC.b false, SC.b false, SC.b false, SC.b false, SC.b false, SC.b false, SC.b false, SC.b false, SC.b false, SC.b false, SC.b false, SC.b false, SC.b false, SC.b false, SC.b false, SC.b false, SC.b false, SC.b false, SC.b false, SC.b false, SC.b false, SC.b false, SC.b false, SC.b false, SC.b false, SC.b false, SC.b false, SC.b false, SC.b false, SC.b false, SC.b false, SC.b false, SC.b false, SC.b false, SC.b false, SC.b false, SC.b false, SC.b false, SC.b false, SC.b false, SC.b false, SC.b false, SC.b false, SC.b false, SC.b false, SC.b false, SC.b false, SC.b false, SC.b false, SC.b false, SC.b false, SC.b false, SC.b false, SC.b false, SC.b false, SC.b false, SC.b false, SC.b false, SC.b false, SC.b false, SC.b false, SC.b false, SC.b false, SC.b false, SC.b false, SC.b false, SC.b false, SC.b false, SC.b false, SC.b false, SC.b false, SC.b false, SC.b false, SC.b false, SC.b false, SC.b false, SC.b false, SC.b false, SC.b false, SC.b false, SC.b false, SC.b false, SC.b false, SC.b false, SC.b false, SC.b false, SC.b false, SC.b false, SC.b false, SC.b false, SC.b false, SC.b false, SC.b false, SC.b false, SC.b false, SC.b false], [], 4, 1, 5, IntKind.i64⟩ := by kernel_rfl
theorem ti125 : tiOf Tryz.prog 125 = some ⟨1, false, [SC.v (Value.tuple { toList := [Value.agg [Value.bool false, Value.bool false, Value.bool false, Value.bool false, Value.bool false, Value.bool false, Value.bool false, Value.bool false, Value.bool false, Value.bool false, Value.bool false, Value.bool false, Value.bool false, Value.bool false, Value.bool false, Value.bool false, Value.bool false, Value.bool false, Value.bool false, Value.bool false, Value.bool false, Value.bool false, Value.bool false, Value.bool false, Value.bool false, Value.bool false, Value.bool false, Value.bool false, Value.bool false, Value.bool false, Value.bool false, Value.bool false, Value.bool false, Value.bool false, Value.bool false, Value.bool false, Value.bool false, Value.bool false, Value.bool false, Value.bool false, Value.bool false, Value.bool false, Value.bool false, Value.bool false, Value.bool false, Value.bool false, Value.bool false, Value.bool false, Value.bool false, Value.bool false, Value.bool false, Value.bool false, Value.bool false, Value.bool false, Value.bool false, Value.bool false, Value.bool false, Value.bool false, Value.bool false, Value.bool false, Value.bool false, Value.bool false, Value.bool false, Value.bool false, Value.bool false, Value.bool false, Value.bool false, Value.bool false, Value.bool false, Value.bool false, Value.bool false, Value.bool false, Value.bool false, Value.bool false, Value.bool false, Value.bool false, Value.bool false, Value.bool false, Value.bool false, Value.bool false, Value.bool false, Value.bool false, Value.bool false, Value.bool false, Value.bool false, Value.bool false, Value.bool false, Value.bool false, Value.bool false, Value.bool false, Value.bool false, Value.bool false, Value.bool false, Value.bool false, Value.bool false, Value.bool false, Value.bool false, Value.bool false, Value.bool false, Value.bool false, Value.bool false, Value.bool false, Value.bool false, Value.bool false, Value.bool false, Value.bool false, Value.bool false, Value.bool false, Value.bool false, Value.bool false, Value.bool false, Value.bool false, Value.bool false, Value.bool false, Value.bool false, Value.bool false, Value.bool false, Value.bool false, Value.bool false, Value.bool false, Value.bool false, Value.bool false, Value.bool false, Value.bool false, Value.bool false, Value.bool false, Value.bool false, Value.bool false, Value.bool false, Value.bool false, Value.bool false, Value.bool false, Value.bool false, Value.bool false, Value.bool false, Value.bool false, Value.bool false, Value.bool false, Value.bool false, Value.bool false, Value.bool false, Value.bool false, Value.bool false, Value.bool false, Value.bool false, Value.bool false, Value.bool false, Value.bool false, Value.bool false, Value.bool false, Value.bool false, Value.bool false, Value.bool false, Value.bool false, Value.bool false, Value.bool false, Value.bool false, Value.bool false, Value.bool false, Value.bool false, Value.bool false, Value.bool false, Value.bool false, Value.bool false, Value.bool false, Value.bool false, Value.bool false, Value.bool false, Value.bool false, Value.bool false, Value.bool false, Value.bool false, Value.bool false, Value.bool false, Value.bool false, Value.bool false, Value.bool false, Value.bool false, Value.bool false, Value.bool false, Value.bool false, Value.bool false, Value.bool false, Value.bool false, Value.bool false, Value.bool false, Value.bool false, Value.bool false, Value.bool false, Value.bool false, Value.bool false, Value.bool false, Value.bool false, Value.bool false, Value.bool false, Value.bool false, Value.bool false, Value.bool false, Value.bool false, Value.bool false, Value.bool false, Value.bool false, Value.bool false, Value.bool false, Value.bool false, Value.bool false, Value.bool false, Value.bool false, Value.bool false, Value.bool false, Value.bool false, Value.bool false, Value.bool false, Value.bool false, Value.bool false, Value.bool false, Value.bool false, Value.bool false, Value.bool false, Value.bool false, Value.bool false, Value.bool false, Value.bool false, Value.bool false, Value.bool false, Value.bool false, Value.bool false, Value.bool false, Value.bool false, Value.bool false, Value.bool false, Value.bool false, Value.bool false, Value.bool false, Value.bool false, Value.bool false, Value.bool false, Value.bool false, Value.bool false, Value.bool false, Value.bool false, Value.bool false, Value.bool false, Value.bool false, Value.bool false, Value.bool false, Value.bool false, Value.bool false, Value.bool false, Value.bool false, Value.bool false, Value.bool false, Value.bool false, Value.bool false, Value.bool false, Value.bool false].toArray, Value.bool false] })], [], 0, 1, 0, IntKind.i64⟩ := by kernel_rfl
theorem ti126 : tiOf Tryz.prog 126 = some ⟨1, false, [SC.v Value.nilFunc], [], 0, 1, 0, IntKind.i64⟩ := by kernel_rfl
theorem ti127 : tiOf Tryz.prog 127 = some ⟨1, false, [SC.v Value.nilFunc], [], 0, 1, 0, IntKind.i64⟩ := by kernel_rfl
theorem ti128 : tiOf Tryz.prog 128 = some ⟨1, false, [SC.v (Value.pointer none)], [], 124, 256, 6, IntKind.i64⟩ := by kernel_rfl
theorem ti129 : tiOf Tryz.prog 129 = some ⟨1, false, [SC.v Value.nilFunc], [], 0, 1, 0, IntKind.i64⟩ := by kernel_rfl
theorem ti130 : tiOf Tryz.prog 130 = some ⟨1, false, [SC.v Value.nilFunc], [], 0, 1, 0, IntKind.i64⟩ := by kernel_rfl
theorem ti131 : tiOf Tryz.prog 131 = some ⟨1, false, [SC.v (Value.tuple [Value.int IntKind.i64 0, Value.nilIface].toArray)], [], 0, 1, 0, IntKind.i64⟩ := by kernel_rfl
theorem ti132 : tiOf Tryz.prog 132 = some ⟨1, false, [SC.v Value.nilFunc], [], 0, 1, 0, IntKind.i64⟩ := by kernel_rfl
theorem ti133 : tiOf Tryz.prog 133 = some ⟨1, false, [SC.v Value.nilFunc], [], 0, 1, 0, IntKind.i64⟩ := by kernel_rfl
theorem ti134 : tiOf Tryz.prog 134 = some ⟨1, false, [SC.v Value.nilFunc], [], 0, 1, 0, IntKind.i64⟩ := by kernel_rfl
theorem ti135 : tiOf Tryz.prog 135 = some ⟨20, true, [SC.i IntKind.u64 0, SC.i IntKind.u64 0, SC.i IntKind.u64 0, SC.i IntKind.u64 0, SC.i IntKind.u64 0, SC.i IntKind.u64 0, SC.i IntKind.u64 0, SC.i IntKind.u64 0, SC.i IntKind.u64 0, SC.i IntKind.u64 0, SC.i IntKind.u64 0, SC.i IntKind.u64 0, SC.i IntKind.u64 0, SC.i IntKind.u64 0, SC.i IntKind.u64 0, SC.i IntKind.u64 0, SC.i IntKind.u64 0, SC.i IntKind.u64 0, SC.i IntKind.u64 0, SC.i IntKind.u64 0], [], 31, 1, 5, IntKind.i64⟩ := by kernel_rfl
theorem ti136 : tiOf Tryz.prog 136 = some ⟨65, true, [SC.i IntKind.u8 0, SC.i IntKind.u8 0, SC.i IntKind.u8 0, SC.i IntKind.u8 0, SC.i IntKind.u8 0, SC.i IntKind.u8 0, SC.i IntKind.u8 0, SC.i IntKind.u8 0, SC.i IntKind.u8 0, SC.i IntKind.u8 0, SC.i IntKind.u8 0, SC.i IntKind.u8 0, SC.i IntKind.u8 0, SC.i IntKind.u8 0, SC.i IntKind.u8 0, SC.i IntKind.u8 0, SC.i IntKind.u8 0, SC.i IntKind.u8 0, SC.i IntKind.u8 0, SC.i IntKind.u8 0, SC.i IntKind.u8 0, SC.i IntKind.u8 0, SC.i IntKind.u8 0, SC.i IntKind.u8 0, SC.i IntKind.u8 0, SC.i IntKind.u8 0, SC.i IntKind.u8 0, SC.i IntKind.u8 0, SC.i IntKind.u8 0, SC.i IntKind.u8 0, SC.i IntKind.u8 0, SC.i IntKind.u8 0, SC.i IntKind.u8 0, SC.i IntKind.u8 0, SC.i IntKind.u8 0, SC.i IntKind.u8 0, SC.i IntKind.u8 0, SC.i IntKind.u8 0, SC.i IntKind.u8 0, SC.i IntKind.u8 0, SC.i IntKind.u8 0, SC.i IntKind.u8 0, SC.i IntKind.u8 0, SC.i IntKind.u8 0, SC.i IntKind.u8 0, SC.i IntKind.u8 0, SC.i IntKind.u8 0, SC.i IntKind.u8 0, SC.i IntKind.u8 0, SC.i IntKind.u8 0, SC.i IntKind.u8 0, SC.i IntKind.u8 0, SC.i IntKind.u8 0, SC.i IntKind.u8 0, SC.i IntKind.u8 0, SC.i IntKind.u8 0, SC.i IntKind.u8 0, SC.i IntKind.u8 0, SC.i IntKind.u8 0, SC.i IntKind.u8 0, SC.i IntKind.u8 0, SC.i IntKind.u8 0, SC.i IntKind.u8 0, SC.i IntKind.u8 0, SC.i IntKind.u8 0], [], 5, 1, 5, IntKind.i64⟩ := by kernel_rfl
theorem ti137 : tiOf Tryz.prog 137 = some ⟨1, false, [SC.v Value.nilFunc], [], 0, 1, 0, IntKind.i64⟩ := by kernel_rfl
theorem ti138 : tiOf Tryz.prog 138 = some ⟨1, false, [SC.v Value.nilFunc], [], 0, 1, 0, IntKind.i64⟩ := by kernel_rfl
theorem ti139 : tiOf Tryz.prog 139 = some ⟨1, false, [SC.v Value.nilFunc], [], 0, 1, 0, IntKind.i64⟩ := by kernel_rfl
theorem ti140 : tiOf Tryz.prog 140 = some ⟨1, false, [SC.v (Value.tuple [Value.int IntKind.i32 0, Value.int IntKind.i64 0].toArray)], [], 0, 1, 0, IntKind.i64⟩ := by kernel_rfl
theorem ti141 : tiOf Tryz.prog 141 = some ⟨1, false, [SC.v Value.nilFunc], [], 0, 1, 0, IntKind.i64⟩ := by kernel_rfl
theorem ti142 : tiOf Tryz.prog 142 = some ⟨1, false, [SC.v Value.nilFunc], [], 0, 1, 0, IntKind.i64⟩ := by kernel_rfl
theorem ti143 : tiOf Tryz.prog 143 = some ⟨1, false, [SC.i IntKind.i64 0], [], 0, 1, 1, IntKind.i64⟩ := by kernel_rfl
theorem ti144 : tiOf Tryz.prog 144 = some ⟨1, false, [SC.v Value.nilFunc], [], 0, 1, 0, IntKind.i64⟩ := by kernel_rfl
theorem ti145 : tiOf Tryz.prog 145 = some ⟨1, false, [SC.v (Value.pointer none)], [], 153, 3, 6, IntKind.i64⟩ := by kernel_rfl
theorem ti146 : tiOf Tryz.prog 146 = some ⟨1, false, [SC.v Value.nilFunc], [], 0, 1, 0, IntKind.i64⟩ := by kernel_rfl
theorem ti147 : tiOf Tryz.prog 147 = some ⟨1, false, [SC.v Value.nilFunc], [], 0, 1, 0, IntKind.i64⟩ := by kernel_rfl
theorem ti148 : tiOf Tryz.prog 148 = some ⟨1, false, [SC.v Value.nilFunc], [], 0, 1, 0, IntKind.i64⟩ := by kernel_rfl
theorem ti149 : tiOf Tryz.prog 149 = some ⟨1, false, [SC.v (Value.tuple [Value.int IntKind.u32 0, Value.int IntKind.u32 0].toArray)], [], 0, 1, 0, IntKind.i64⟩ := by kernel_rfl
theorem ti150 : tiOf Tryz.prog 150 = some ⟨1, false, [SC.v Value.nilFunc], [], 0, 1, 0, IntKind.i64⟩ := by kernel_rfl
theorem ti151 : tiOf Tryz.prog 151 = some ⟨1, false, [SC.v Value.nilFunc], [], 0, 1, 0, IntKind.i64⟩ := by kernel_rfl
theorem ti152 : tiOf Tryz.prog 152 = some ⟨3, true, [SC.s [], SC.s [], SC.v Value.nilIface], [(0, 1, false), (1, 1, false), (2, 1, false)], 0, 1, 4, IntKind.i64⟩ := by kernel_rfl
theorem ti153 : tiOf Tryz.prog 153 = some ⟨3, true, [SC.s [], SC.s [], SC.v Value.nilIface], [(0, 1, false), (1, 1, false), (2, 1, false)], 0, 1, 4, IntKind.i64⟩ := by kernel_rfl
theorem ti154 : tiOf Tryz.prog 154 = some ⟨1, false, [SC.v Value.nilFunc], [], 0, 1, 0, IntKind.i64⟩ := by kernel_rfl
theorem ti155 : tiOf Tryz.prog 155 = some ⟨1, false, [SC.v (Value.tuple [Value.int IntKind.i64 0, Value.nilIface].toArray)], [], 0, 1, 0, IntKind.i64⟩ := by kernel_rfl
theorem ti156 : tiOf Tryz.prog 156 = some ⟨1, false, [SC.v Value.nilFunc], [], 0, 1, 0, IntKind.i64⟩ := by kernel_rfl
theorem ti157 : tiOf Tryz.prog 157 = some ⟨1, false, [SC.v Value.nilFunc], [], 0, 1, 0, IntKind.i64⟩ := by kernel_rfl
theorem ti158 : tiOf Tryz.prog 158 = some ⟨32, true, [SC.i IntKind.u8 0, SC.i IntKind.u8 0, SC.i IntKind.u8 0, SC.i IntKind.u8 0, SC.i IntKind.u8 0, SC.i IntKind.u8 0, SC.i IntKind.u8 0, SC.i IntKind.u8 0, SC.i IntKind.u8 0, SC.i IntKind.u8 0, SC.i IntKind.u8 0, SC.i IntKind.u8 0, SC.i IntKind.u8 0, SC.i IntKind.u8 0, SC.i IntKind.u8 0, SC.i IntKind.u8 0, SC.i IntKind.u8 0, SC.i IntKind.u8 0, SC.i IntKind.u8 0, SC.i IntKind.u8 0, SC.i IntKind.u8 0, SC.i IntKind.u8 0, SC.i IntKind.u8 0, SC.i IntKind.u8 0, SC.i IntKind.u8 0, SC.i IntKind.u8 0, SC.i IntKind.u8 0, SC.i IntKind.u8 0, SC.i IntKind.u8 0, SC.i IntKind.u8 0, SC.i IntKind.u8 0, SC.i IntKind.u8 0], [], 5, 1, 5, IntKind.i64⟩ := by kernel_rfl
theorem ti159 : tiOf Tryz.prog 159 = some ⟨64, true, [SC.i IntKind.u8 0, SC.i IntKind.u8 0, SC.i IntKind.u8 0, SC.i IntKind.u8 0, SC.i IntKind.u8 0, SC.i IntKind.u8 0, SC.i IntKind.u8 0, SC.i IntKind.u8 0, SC.i IntKind.u8 0, SC.i IntKind.u8 0, SC.i IntKind.u8 0, SC.i IntKind.u8 0, SC.i IntKind.u8 0, SC.i IntKind.u8 0, SC.i IntKind.u8 0, SC.i IntKind.u8 0, SC.i IntKind.u8 0, SC.i IntKind.u8 0, SC.i IntKind.u8 0, SC.i IntKind.u8 0, SC.i IntKind.u8 0, SC.i IntKind.u8 0, SC.i IntKind.u8 0, SC.i IntKind.u8 0, SC.i IntKind.u8 0, SC.i IntKind.u8 0, SC.i IntKind.u8 0, SC.i IntKind.u8 0, SC.i IntKind.u8 0, SC.i IntKind.u8 0, SC.i IntKind.u8 0, SC.i IntKind.u8 0, SC.i IntKind.u8 0, SC.i IntKind.u8 0, SC.i IntKind.u8 0, SC.i IntKind.u8 0, SC.i IntKind.u8 0, SC.i IntKind.u8 0, SC.i IntKind.u8 0, SC.i IntKind.u8 0, SC.i IntKind.u8 0, SC.i IntKind.u8 0, SC.i IntKind.u8 0, SC.i IntKind.u8 0, SC.i IntKind.u8 0, SC.i IntKind.u8 0, SC.i IntKind.u8 0, SC.i IntKind.u8 0, SC.i IntKind.u8 0, SC.i IntKind.u8 0, SC.i IntKind.u8 0, SC.i IntKind.u8 0, SC.i IntKind.u8 0, SC.i IntKind.u8 0, SC.i IntKind.u8 0, SC.i IntKind.u8 0, SC.i IntKind.u8 0, SC.i IntKind.u8 0, SC.i IntKind.u8 0, SC.i IntKind.u8 0, SC.i IntKind.u8 0, SC.i IntKind.u8 0, SC.i IntKind.u8 0, SC.i IntKind.u8 0], [], 5, 1, 5, IntKind.i64⟩ := by kernel_rfl
theorem ti160 : tiOf Tryz.prog 160 = some ⟨256, true, [SC.i IntKind.u8 0, SC.i IntKind.u8 0, SC.i IntKind.u8 0, SC.i IntKind.u8 0, SC.i IntKind.u8 0, SC.i IntKind.u8 0, SC.i IntKind.u8 0, SC.i IntKind.u8 0, SC.i IntKind.u8 0, SC.i IntKind.u8 0, SC.i IntKind.u8 0, SC.i IntKind.u8 0, SC.i IntKind.u8 0, SC.i IntKind.u8 0, SC.i IntKind.u8 0, SC.i IntKind.u8 0, SC.i IntKind.u8 0, SC.i IntKind.u8 0, SC.i IntKind.u8 0, SC.i IntKind.u8 0, SC.i IntKind.u8 0, SC.i IntKind.u8 0, SC.i IntKind.u8 0, SC.i IntKind.u8 0, SC.i IntKind.u8 0, SC.i IntKind.u8 0, SC.i IntKind.u8 0, SC.i IntKind.u8 0, SC.i IntKind.u8 0, SC.i IntKind.u8 0, SC.i IntKind.u8 0, SC.i IntKind.u8 0, SC.i IntKind.u8 0, SC.i IntKind.u8 0, SC.i IntKind.u8 0, SC.i IntKind.u8 0, SC.i IntKind.u8 0, SC.i IntKind.u8 0, SC.i IntKind.u8 0, SC.i IntKind.u8 0, SC.i IntKind.u8 0, SC.i IntKind.u8 0, SC.i IntKind.u8 0, SC.i IntKind.u8 0, SC.i IntKind.u8 0, SC.i IntKind.u8 0, SC.i IntKind.u8 0, SC.i IntKind.u8 0, SC.i IntKind.u8 0, SC.i IntKind.u8 0, SC.i IntKind.u8 0, SC.i IntKind.u8 0, SC.i IntKind.u8 0, SC.i IntKind.u8 0, SC.i IntKind.u8 0, SC.i IntKind.u8 0, SC.i IntKind.u8 0, SC.i IntKind.u8 0, SC.i IntKind.u8 0, SC.i IntKind.u8 0, SC.i IntKind.u8 0, SC.i IntKind.u8 0, SC.i IntKind.u8 0, SC.i IntKind.u8 0, SC.i IntKind.u8 0, SC.i IntKind.u8 0, SC.i IntKind.u8 0, SC.i IntKind.u8 0, SC.i IntKind.u8 0, SC.i IntKind.u8 0, SC.i IntKind.u8 0, SC.i IntKind.u8 0, SC.i IntKind.u8 0, SC.i IntKind.u8 0, SC.i IntKind.u8 0, SC.i IntKind.u8 0, SC.i IntKind.u8 0, SC.i IntKind.u8 0, SC.i IntKind.u8 0, SC.i IntKind.u8 0, SC.i IntKind.u8 0, SC.i IntKind.u8 0, SC.i IntKind.u8 0, SC.i IntKind.u8 0, SC.i IntKind.u8 0, SC.i IntKind.u8 0, SC.i IntKind.u8 0, SC.i IntKind.u8 0, SC.i IntKind.u8 0, SC.i IntKind.u8 0, SC.i IntKind.u8 0, SC.i IntKind.u8 0, SC.i IntKind.u8 0, SC.i IntKind.u8 0, SC.i IntKind.u8 0, SC.i IntKind.u8 0, SC.i IntKind.u8 0, SC.i IntKind.u8 0, SC.i IntKind.u8 0, SC.i IntKind.u8 0, SC.i IntKind.u8 0, SC.i IntKind.u8 0, SC.i IntKind.u8 0, SC.i IntKind.u8 0, SC.i IntKind.u8 0, SC.i IntKind.u8 0, SC.i IntKind.u8 0, SC.i IntKind.u8 0, SC.i IntKind.u8 0, SC.i IntKind.u8 0, SC.i IntKind.u8 0, SC.i IntKind.u8 0, SC.i IntKind.u8 0, SC.i IntKind.u8 0, SC.i IntKind.u8 0, SC.i IntKind.u8 0, SC.i IntKind.u8 0, SC.i IntKind.u8 0, SC.i IntKind.u8 0, SC.i IntKind.u8 0, SC.i IntKind.u8 0, SC.i IntKind.u8 0, SC.i IntKind.u8 0, SC.i IntKind.u8 0, SC.i IntKind.u8 0, SC.i IntKind.u8 0, SC.i IntKind.u8 0, SC.i IntKind.u8 0, SC.i IntKind.u8 0, SC.i IntKind.u8 0, SC.i IntKind.u8 0, SC.i IntKind.u8 0, SC.i IntKind.u8 0, SC.i IntKind.u8 0, SC.i IntKind.u8 0, SC.i IntKind.u8 0, SC.i IntKind.u8 0, SC.i IntKind.u8 0, SC.i IntKind.u8 0, SC.i IntKind.u8 0, SC.i IntKind.u8 0, SC.i IntKind.u8 0, SC.i IntKind.u8 0, SC.i IntKind.u8 0, SC.i IntKind.u8 0, SC.i IntKind.u8 0, SC.i IntKind.u8 0, SC.i IntKind.u8 0, SC.i IntKind.u8 0, SC.i IntKind.u8 0, SC.i IntKind.u8 0, SC.i IntKind.u8 0, SC.i IntKind.u8 0, SC.i IntKind.u8 0, SC.i IntKind.u8 0, SC.i IntKind.u8 0, SC.i IntKind.u8 0, SC.i IntKind.u8 0, SC.i IntKind.u8 0, SC.i IntKind.u8 0, SC.i IntKind.u8 0, SC.i IntKind.u8 0, SC.i IntKind.u8 0, SC.i IntKind.u8 0, SC.i IntKind.u8 0, SC.i IntKind.u8 0, SC.i IntKind.u8 0, SC.i IntKind.u8 0, SC.i IntKind.u8 0, SC.i IntKind.u8 0, SC.i IntKind.u8 0, SC.i IntKind.u8 0, SC.i IntKind.u8 0, SC.i IntKind.u8 0, SC.i IntKind.u8 0, SC.i IntKind.u8 0, SC.i IntKind.u8 0, SC.i IntKind.u8 0, SC.i IntKind.u8 0, SC.i IntKind.u8 0, SC.i IntKind.u8 0, SC.i IntKind.u8 0, SC.i IntKind.u8 0, SC.i IntKind.u8 0, SC.i IntKind.u8 0, SC.i IntKind.u8 0, SC.i IntKind.u8 0, SC.i IntKind.u8 0, SC.i IntKind.u8 0, SC.i IntKind.u8 0, SC.i IntKind.u8 0, SC.i IntKind.u8 0, SC.i IntKind.u8 0, SC.i IntKind.u8 0, SC.i IntKind.u8 0, SC.i IntKind.u8 0, SC.i IntKind.u8 0, SC.i IntKind.u8 0, SC.i IntKind.u8 0, SC.i IntKind.u8 0, SC.i IntKind.u8 0, SC.i IntKind.u8 0, SC.i IntKind.u8 0, SC.i IntKind.u8 0, SC.i IntKind.u8 0, SC.i IntKind.u8 0, SC.i IntKind.u8 0, SC.i IntKind.u8 0, SC.i IntKind.u8 0, SC.i IntKind.u8 0, SC.i IntKind.u8 0, SC.i IntKind.u8 0, SC.i IntKind.u8 0, SC.i IntKind.u8 0, SC.i IntKind.u8 0, SC.i IntKind.u8 0, SC.i IntKind.u8 0, SC.i IntKind.u8 0, SC.i IntKind.u8 0, SC.i IntKind.u8 0, SC.i IntKind.u8 0, SC.i IntKind.u8 0, SC.i IntKind.u8 0, SC.i IntKind.u8 0, SC.i IntKind.u8 0, SC.i IntKind.u8 0, SC.i IntKind.u8 0, SC.i IntKind.u8 0, SC.i IntKind.u8 0, SC.i IntKind.u8 0, SC.i IntKind.u8 0, SC.i IntKind.u8 0, SC.i IntKind.u8 0, SC.i IntKind.u8 0, SC.i IntKind.u8 0, SC.i IntKind.u8 0, SC.i IntKind.u8 0, SC.i IntKind.u8 0, SC.i IntKind.u8 0, SC.i IntKind.u8 0, SC.i IntKind.u8 0, SC.i IntKind.u8 0, SC.i IntKind.u8 0, SC.i IntKind.u8 0, SC.i IntKind.u8 0, SC.i IntKind.u8 0, SC.i IntKind.u8 0, SC.i IntKind.u8 0, SC.i IntKind.u8 0, SC.i IntKind.u8 0, SC.i IntKind.u8 0, SC.i IntKind.u8 0, SC.i IntKind.u8 0, SC.i IntKind.u8 0, SC.i IntKind.u8 0, SC.i IntKind.u8 0], [], 5, 1, 5, IntKind.i64⟩ := by kernel_rfl
theorem ti161 : tiOf Tryz.prog 161 = some ⟨2, true, [SC.i IntKind.u8 0, SC.i IntKind.u8 0], [(0, 1, false), (1, 1, false)], 0, 1, 4, IntKind.i64⟩ := by kernel_rfl
theorem ti162 : tiOf Tryz.prog 162 = some ⟨2, true, [SC.i IntKind.u8 0, SC.i IntKind.u8 0], [(0, 1, false), (1, 1, false)], 0, 1, 4, IntKind.i64⟩ := by kernel_rfl
theorem ti163 : tiOf Tryz.prog 163 = some ⟨32, true, [SC.i IntKind.u8 0, SC.i IntKind.u8 0, SC.i IntKind.u8 0, SC.i IntKind.u8 0, SC.i IntKind.u8 0, SC.i IntKind.u8 0, SC.i IntKind.u8 0, SC.i IntKind.u8 0, SC.i IntKind.u8 0, SC.i IntKind.u8 0, SC.i IntKind.u8 0, SC.i IntKind.u8 0, SC.i IntKind.u8 0, SC.i IntKind.u8 0, SC.i IntKind.u8 0, SC.i IntKind.u8 0, SC.i IntKind.u8 0, SC.i IntKind.u8 0, SC.i IntKind.u8 0, SC.i IntKind.u8 0, SC.i IntKind.u8 0, SC.i IntKind.u8 0, SC.i IntKind.u8 0, SC.i IntKind.u8 0, SC.i IntKind.u8 0, SC.i IntKind.u8 0, SC.i IntKind.u8 0, SC.i IntKind.u8 0, SC.i IntKind.u8 0, SC.i IntKind.u8 0, SC.i IntKind.u8 0, SC.i IntKind.u8 0], [], 162, 2, 5, IntKind.i64⟩ := by kernel_rfl
theorem ti164 : tiOf Tryz.prog 164 = some ⟨1, false, [SC.v Value.nilFunc], [], 0, 1, 0, IntKind.i64⟩ := by kernel_rfl
theorem ti165 : tiOf Tryz.prog 165 = some ⟨1, false, [SC.v (Value.pointer none)], [], 167, 1, 6, IntKind.i64⟩ := by kernel_rfl
theorem ti166 : tiOf Tryz.prog 166 = some ⟨1, true, [SC.s []], [(0, 1, false)], 0, 1, 4, IntKind.i64⟩ := by kernel_rfl
theorem ti167 : tiOf Tryz.prog 167 = some ⟨1, true, [SC.s []], [(0, 1, false)], 0, 1, 4, IntKind.i64⟩ := by kernel_rfl
theorem ti168 : tiOf Tryz.prog 168 = some ⟨1, false, [SC.v Value.nilFunc], [], 0, 1, 0, IntKind.i64⟩ := by kernel_rfl
theorem ti169 : tiOf Tryz.prog 169 = some ⟨4, true, [SC.v (Value.pointer none), SC.v (Value.pointer none), SC.v (Value.pointer none), SC.s []], [(0, 1, false), (1, 1, false), (2, 1, false), (3, 1, false)], 0, 1, 4, IntKind.i64⟩ := by kernel_rfl
theorem ti170 : tiOf Tryz.prog 170 = some ⟨4, true, [SC.v (Value.pointer none), SC.v (Value.pointer none), SC.v (Value.pointer none), SC.s []], [(0, 1, false), (1, 1, false), (2, 1, false), (3, 1, false)], 0, 1, 4, IntKind.i64⟩ := by kernel_rfl
theorem ti171 : tiOf Tryz.prog 171 = some ⟨0, true, [], [], 16, 1, 5, IntKind.i64⟩ := by kernel_rfl
theorem ti172 : tiOf Tryz.prog 172 = some ⟨0, true, [], [(0, 0, true)], 0, 1, 4, IntKind.i64⟩ := by kernel_rfl
theorem ti173 : tiOf Tryz.prog 173 = some ⟨0, true, [], [(0, 0, true)], 0, 1, 4, IntKind.i64⟩ := by kernel_rfl
theorem ti174 : tiOf Tryz.prog 174 = some ⟨1, false, [SC.i IntKind.u8 0], [], 0, 1, 1, IntKind.u8⟩ := by kernel_rfl
theorem ti175 : tiOf Tryz.prog 175 = some ⟨1, false, [SC.i IntKind.u8 0], [], 0, 1, 1, IntKind.u8⟩ := by kernel_rfl
theorem ti176 : tiOf Tryz.prog 176 = some ⟨1, false, [SC.v Value.nilFunc], [], 0, 1, 0, IntKind.i64⟩ := by kernel_rfl
theorem ti177 : tiOf Tryz.prog 177 = some ⟨1, false, [SC.i IntKind.i32 0], [], 0, 1, 1, IntKind.i32⟩ := by kernel_rfl
theorem ti178 : tiOf Tryz.prog 178 = some ⟨1, false, [SC.i IntKind.i32 0], [], 0, 1, 1, IntKind.i32⟩ := by kernel_rfl
theorem ti179 : tiOf Tryz.prog 179 = some ⟨11, true, [SC.i IntKind.u64 0, SC.i IntKind.u64 0, SC.i IntKind.u32 0, SC.i IntKind.u8 0, SC.i IntKind.u8 0, SC.i IntKind.u8 0, SC.i IntKind.u8 0, SC.v Value.nilFunc, SC.v (Value.pointer none), SC.i IntKind.i32 0, SC.i IntKind.i32 0], [(0, 1, false), (1, 1, false), (2, 1, false), (3, 1, false), (4, 1, false), (5, 1, false), (6, 1, false), (7, 1, false), (8, 1, false), (9, 1, false), (10, 1, false)], 0, 1, 4, IntKind.i64⟩ := by kernel_rfl
theorem ti180 : tiOf Tryz.prog 180 = some ⟨11, true, [SC.i IntKind.u64 0, SC.i IntKind.u64 0, SC.i IntKind.u32 0, SC.i IntKind.u8 0, SC.i IntKind.u8 0, SC.i IntKind.u8 0, SC.i IntKind.u8 0, SC.v Value.nilFunc, SC.v (Value.pointer none), SC.i IntKind.i32 0, SC.i IntKind.i32 0], [(0, 1, false), (1, 1, false), (2, 1, false), (3, 1, false), (4, 1, false), (5, 1, false), (6, 1, false), (7, 1, false), (8, 1, false), (9, 1, false), (10, 1, false)], 0, 1, 4, IntKind.i64⟩ := by kernel_rfl
theorem lay0 : tiOf Tryz.prog 0 = some ⟨1, false, [SC.v (Value.tuple [].toArray)], [], 0, 1, 0, IntKind.i64⟩ ∧ tiOf Tryz.prog 1 = some ⟨1, false, [SC.v Value.nilFunc], [], 0, 1, 0, IntKind.i64⟩ ∧ tiOf Tryz.prog 2 = some ⟨1, false, [SC.i IntKind.i64 0], [], 0, 1, 1, IntKind.i64⟩ ∧ tiOf Tryz.prog 3 = some ⟨1, false, [SC.i IntKind.i64 0], [], 0, 1, 1, IntKind.i64⟩ ∧ tiOf Tryz.prog 4 = some ⟨1, false, [SC.b false], [], 0, 1, 7, IntKind.i64⟩ ∧ tiOf Tryz.prog 5 = some ⟨1, false, [SC.i IntKind.u8 0], [], 0, 1, 1, IntKind.u8⟩ ∧ tiOf Tryz.prog 6 = some ⟨1, false, [SC.i IntKind.u8 0], [], 0, 1, 1, IntKind.u8⟩ ∧ tiOf Tryz.prog 7 = some ⟨4, true, [SC.i IntKind.i64 0, SC.i IntKind.i64 0, SC.b false, SC.i IntKind.u8 0], [(0, 1, false), (1, 1, false), (2, 1, false), (3, 1, false)], 0, 1, 4, IntKind.i64⟩ ∧ tiOf Tryz.prog 8 = some ⟨4, true, [SC.i IntKind.i64 0, SC.i IntKind.i64 0, SC.b false, SC.i IntKind.u8 0], [(0, 1, false), (1, 1, false), (2, 1, false), (3, 1, false)], 0, 1, 4, IntKind.i64⟩ ∧ tiOf Tryz.prog 9 = some ⟨1, false, [SC.s []], [], 0, 1, 2, IntKind.i64⟩ ∧ tiOf Tryz.prog 10 = some ⟨1, false, [SC.s []], [], 0, 1, 2, IntKind.i64⟩ ∧ tiOf Tryz.prog 11 = some ⟨1, false, [SC.s []], [], 0, 1, 2, IntKind.i64⟩ ∧ tiOf Tryz.prog 12 = some ⟨1, false, [SC.i IntKind.u64 0], [], 0, 1, 1, IntKind.u64⟩ ∧ tiOf Tryz.prog 13 = some ⟨2, true, [SC.s [], SC.i IntKind.u64 0], [(0, 1, false), (1, 1, false)], 0, 1, 4, IntKind.i64⟩ ∧ tiOf Tryz.prog 14 = some ⟨2, true, [SC.s [], SC.i IntKind.u64 0], [(0, 1, false), (1, 1, false)], 0, 1, 4, IntKind.i64⟩ ∧ tiOf Tryz.prog 15 = some ⟨1, false, [SC.v (Value.pointer none)], [], 170, 4, 6, IntKind.i64⟩ ∧ tiOf Tryz.prog 16 = some ⟨1, false, [SC.v (Value.pointer none)], [], 173, 0, 6, IntKind.i64⟩ ∧ tiOf Tryz.prog 17 = some ⟨1, false, [SC.v (Value.pointer none)], [], 180, 11, 6, IntKind.i64⟩ ∧ tiOf Tryz.prog 18 = some ⟨1, true, [SC.v (Value.pointer none)], [(0, 1, false)], 0, 1, 4, IntKind.i64⟩ ∧ tiOf Tryz.prog 19 = some ⟨1, true, [SC.v (Value.pointer none)], [(0, 1, false)], 0, 1, 4, IntKind.i64⟩ :=
  ⟨ti0, ti1, ti2, ti3, ti4, ti5, ti6, ti7, ti8, ti9, ti10, ti11, ti12, ti13, ti14, ti15, ti16, ti17, ti18, ti19⟩
theorem lay1 : tiOf Tryz.prog 20 = some ⟨1, false, [SC.v Value.nilIface], [], 0, 1, 8, IntKind.i64⟩ ∧ tiOf Tryz.prog 21 = some ⟨1, false, [SC.i IntKind.i32 0], [], 0, 1, 1, IntKind.i32⟩ ∧ tiOf Tryz.prog 22 = some ⟨1, false, [SC.v Value.nilFunc], [], 0, 1, 0, IntKind.i64⟩ ∧ tiOf Tryz.prog 23 = some ⟨1, false, [SC.v (Value.slice none 0 0)], [], 33, 16, 3, IntKind.i64⟩ ∧ tiOf Tryz.prog 24 = some ⟨1, false, [SC.v (Value.slice none 0 0)], [], 9, 1, 3, IntKind.i64⟩ ∧ tiOf Tryz.prog 25 = some ⟨11, true, [SC.i IntKind.i64 0, SC.v (Value.slice none 0 0), SC.b false, SC.b false, SC.s [], SC.s [], SC.i IntKind.i64 0, SC.b false, SC.s [], SC.v (Value.slice none 0 0), SC.s []], [(0, 1, false), (1, 1, false), (2, 1, false), (3, 1, false), (4, 1, false), (5, 1, false), (6, 1, false), (7, 1, false), (8, 1, false), (9, 1, false), (10, 1, false)], 0, 1, 4, IntKind.i64⟩ ∧ tiOf Tryz.prog 26 = some ⟨11, true, [SC.i IntKind.i64 0, SC.v (Value.slice none 0 0), SC.b false, SC.b false, SC.s [], SC.s [], SC.i IntKind.i64 0, SC.b false, SC.s [], SC.v (Value.slice none 0 0), SC.s []], [(0, 1, false), (1, 1, false), (2, 1, false), (3, 1, false), (4, 1, false), (5, 1, false), (6, 1, false), (7, 1, false), (8, 1, false), (9, 1, false), (10, 1, false)], 0, 1, 4, IntKind.i64⟩ ∧ tiOf Tryz.prog 27 = some ⟨1, false, [SC.v (Value.tuple { toList := [Value.agg { toList := [Value.int IntKind.i64 0, Value.slice none 0 0, Value.bool false, Value.bool false, Value.string { data := [].toArray }, Value.string { data := [].toArray }, Value.int IntKind.i64 0, Value.bool false, Value.string { data := [].toArray }, Value.slice none 0 0, Value.string { data := [].toArray }] }, Value.int IntKind.i64 0] })], [], 0, 1, 0, IntKind.i64⟩ ∧ tiOf Tryz.prog 28 = some ⟨1, false, [SC.v Value.nilFunc], [], 0, 1, 0, IntKind.i64⟩ ∧ tiOf Tryz.prog 29 = some ⟨1, false, [SC.v Value.nilFunc], [], 0, 1, 0, IntKind.i64⟩ ∧ tiOf Tryz.prog 30 = some ⟨1, false, [SC.i IntKind.u32 0], [], 0, 1, 1, IntKind.u32⟩ ∧ tiOf Tryz.prog 31 = some ⟨1, false, [SC.i IntKind.u64 0], [], 0, 1, 1, IntKind.u64⟩ ∧ tiOf Tryz.prog 32 = some ⟨16, true, [SC.i IntKind.i64 0, SC.i IntKind.i64 0, SC.s [], SC.s [], SC.i IntKind.u32 0, SC.i IntKind.i64 0, SC.b false, SC.i IntKind.u64 0, SC.b false, SC.i IntKind.u64 0, SC.i IntKind.u64 0, SC.b false, SC.b false, SC.i IntKind.i64 0, SC.i IntKind.i64 0, SC.b false], [(0, 1, false), (1, 1, false), (2, 1, false), (3, 1, false), (4, 1, false), (5, 1, false), (6, 1, false), (7, 1, false), (8, 1, false), (9, 1, false), (10, 1, false), (11, 1, false), (12, 1, false), (13, 1, false), (14, 1, false), (15, 1, false)], 0, 1, 4, IntKind.i64⟩ ∧ tiOf Tryz.prog 33 = some ⟨16, true, [SC.i IntKind.i64 0, SC.i IntKind.i64 0, SC.s [], SC.s [], SC.i IntKind.u32 0, SC.i IntKind.i64 0, SC.b false, SC.i IntKind.u64 0, SC.b false, SC.i IntKind.u64 0, SC.i IntKind.u64 0, SC.b false, SC.b false, SC.i IntKind.i64 0, SC.i IntKind.i64 0, SC.b false], [(0, 1, false), (1, 1, false), (2, 1, false), (3, 1, false), (4, 1, false), (5, 1, false), (6, 1, false), (7, 1, false), (8, 1, false), (9, 1, false), (10, 1, false), (11, 1, false), (12, 1, false), (13, 1, false), (14, 1, false), (15, 1, false)], 0, 1, 4, IntKind.i64⟩ ∧ tiOf Tryz.prog 34 = some ⟨1, false, [SC.v Value.nilFunc], [], 0, 1, 0, IntKind.i64⟩ ∧ tiOf Tryz.prog 35 = some ⟨8, true, [SC.s [], SC.i IntKind.u32 0, SC.s [], SC.i IntKind.i64 0, SC.i IntKind.u64 0, SC.i IntKind.i64 0, SC.b false, SC.b false], [(0, 1, false), (1, 1, false), (2, 1, false), (3, 1, false), (4, 1, false), (5, 1, false), (6, 1, false), (7, 1, false)], 0, 1, 4, IntKind.i64⟩ ∧ tiOf Tryz.prog 36 = some ⟨8, true, [SC.s [], SC.i IntKind.u32 0, SC.s [], SC.i IntKind.i64 0, SC.i IntKind.u64 0, SC.i IntKind.i64 0, SC.b false, SC.b false], [(0, 1, false), (1, 1, false), (2, 1, false), (3, 1, false), (4, 1, false), (5, 1, false), (6, 1, false), (7, 1, false)], 0, 1, 4, IntKind.i64⟩ ∧ tiOf Tryz.prog 37 = some ⟨13, true, [SC.i IntKind.i64 0, SC.s [], SC.i IntKind.u32 0, SC.s [], SC.i IntKind.i64 0, SC.i IntKind.u64 0, SC.i IntKind.i64 0, SC.b false, SC.b false, SC.i IntKind.u64 0, SC.b false, SC.b false, SC.b false], [(0, 1, false), (1, 8, true), (9, 1, false), (10, 1, false), (11, 1, false), (12, 1, false)], 0, 1, 4, IntKind.i64⟩ ∧ tiOf Tryz.prog 38 = some ⟨13, true, [SC.i IntKind.i64 0, SC.s [], SC.i IntKind.u32 0, SC.s [], SC.i IntKind.i64 0, SC.i IntKind.u64 0, SC.i IntKind.i64 0, SC.b false, SC.b false, SC.i IntKind.u64 0, SC.b false, SC.b false, SC.b false], [(0, 1, false), (1, 8, true), (9, 1, false), (10, 1, false), (11, 1, false), (12, 1, false)], 0, 1, 4, IntKind.i64⟩ ∧ tiOf Tryz.prog 39 = some ⟨1, false, [SC.v Value.nilFunc], [], 0, 1, 0, IntKind.i64⟩ :=
  ⟨ti20, ti21, ti22, ti23, ti24, ti25, ti26, ti27, ti28, ti29, ti30, ti31, ti32, ti33, ti34, ti35, ti36, ti37, ti38, ti39⟩
theorem lay2 : tiOf Tryz.prog 40 = some ⟨1, false, [SC.v Value.nilFunc], [], 0, 1, 0, IntKind.i64⟩ ∧ tiOf Tryz.prog 41 = some ⟨1, false, [SC.v Value.nilFunc], [], 0, 1, 0, IntKind.i64⟩ ∧ tiOf Tryz.prog 42 = some ⟨1, false, [SC.v Value.nilFunc], [], 0, 1, 0, IntKind.i64⟩ ∧ tiOf Tryz.prog 43 = some ⟨1, false, [SC.v Value.nilFunc], [], 0, 1, 0, IntKind.i64⟩ ∧ tiOf Tryz.prog 44 = some ⟨1, false, [SC.v Value.nilFunc], [], 0, 1, 0, IntKind.i64⟩ ∧ tiOf Tryz.prog 45 = some ⟨1, false, [SC.v Value.nilFunc], [], 0, 1, 0, IntKind.i64⟩ ∧ tiOf Tryz.prog 46 = some ⟨1, false, [SC.v (Value.slice none 0 0)], [], 3, 1, 3, IntKind.i64⟩ ∧ tiOf Tryz.prog 47 = some ⟨1, false, [SC.v Value.nilFunc], [], 0, 1, 0, IntKind.i64⟩ ∧ tiOf Tryz.prog 48 = some ⟨4, true, [SC.b false, SC.b false, SC.b false, SC.b false], [], 4, 1, 5, IntKind.i64⟩ ∧ tiOf Tryz.prog 49 = some ⟨1, false, [SC.v Value.nilFunc], [], 0, 1, 0, IntKind.i64⟩ ∧ tiOf Tryz.prog 50 = some ⟨1, false, [SC.v Value.nilFunc], [], 0, 1, 0, IntKind.i64⟩ ∧ tiOf Tryz.prog 51 = some ⟨1, false, [SC.v Value.nilFunc], [], 0, 1, 0, IntKind.i64⟩ ∧ tiOf Tryz.prog 52 = some ⟨1, false, [SC.v (Value.tuple { toList := [Value.string { data := [].toArray }, Value.int IntKind.i64 0, Value.agg { toList := [Value.int IntKind.i64 0, Value.slice none 0 0, Value.bool false, Value.bool false, Value.string { data := [].toArray }, Value.string { data := [].toArray }, Value.int IntKind.i64 0, Value.bool false, Value.string { data := [].toArray }, Value.slice none 0 0, Value.string { data := [].toArray }] }, Value.bool false] })], [], 0, 1, 0, IntKind.i64⟩ ∧ tiOf Tryz.prog 53 = some ⟨1, false, [SC.v Value.nilFunc], [], 0, 1, 0, IntKind.i64⟩ ∧ tiOf Tryz.prog 54 = some ⟨1, false, [SC.v Value.nilFunc], [], 0, 1, 0, IntKind.i64⟩ ∧ tiOf Tryz.prog 55 = some ⟨1, false, [SC.v Value.nilFunc], [], 0, 1, 0, IntKind.i64⟩ ∧ tiOf Tryz.prog 56 = some ⟨1, false, [SC.v Value.nilFunc], [], 0, 1, 0, IntKind.i64⟩ ∧ tiOf Tryz.prog 57 = some ⟨1, false, [SC.v (Value.tuple { toList := [Value.string { data := [].toArray }, Value.int IntKind.i64 0] })], [], 0, 1, 0, IntKind.i64⟩ ∧ tiOf Tryz.prog 58 = some ⟨1, false, [SC.v Value.nilFunc], [], 0, 1, 0, IntKind.i64⟩ ∧ tiOf Tryz.prog 59 = some ⟨1, false, [SC.v Value.nilFunc], [], 0, 1, 0, IntKind.i64⟩ :=
  ⟨ti40, ti41, ti42, ti43, ti44, ti45, ti46, ti47, ti48, ti49, ti50, ti51, ti52, ti53, ti54, ti55, ti56, ti57, ti58, ti59⟩
theorem lay3 : tiOf Tryz.prog 60 = some ⟨1, false, [SC.v (Value.tuple { toList := [Value.agg { toList := [Value.int IntKind.i64 0, Value.int IntKind.i64 0, Value.string { data := [].toArray }, Value.string { data := [].toArray }, Value.int IntKind.u32 0, Value.int IntKind.i64 0, Value.bool false, Value.int IntKind.u64 0, Value.bool false, Value.int IntKind.u64 0, Value.int IntKind.u64 0, Value.bool false, Value.bool false, Value.int IntKind.i64 0, Value.int IntKind.i64 0, Value.bool false] }, Value.string { data := [].toArray }] })], [], 0, 1, 0, IntKind.i64⟩ ∧ tiOf Tryz.prog 61 = some ⟨1, false, [SC.v Value.nilFunc], [], 0, 1, 0, IntKind.i64⟩ ∧ tiOf Tryz.prog 62 = some ⟨1, false, [SC.v (Value.tuple { toList := [Value.agg { toList := [Value.int IntKind.i64 0, Value.slice none 0 0, Value.bool false, Value.bool false, Value.string { data := [].toArray }, Value.string { data := [].toArray }, Value.int IntKind.i64 0, Value.bool false, Value.string { data := [].toArray }, Value.slice none 0 0, Value.string { data := [].toArray }] }, Value.int IntKind.i64 0, Value.bool false] })], [], 0, 1, 0, IntKind.i64⟩ ∧ tiOf Tryz.prog 63 = some ⟨1, false, [SC.v Value.nilFunc], [], 0, 1, 0, IntKind.i64⟩ ∧ tiOf Tryz.prog 64 = some ⟨1, false, [SC.v Value.nilFunc], [], 0, 1, 0, IntKind.i64⟩ ∧ tiOf Tryz.prog 65 = some ⟨25, true, [SC.i IntKind.i64 0, SC.v (Value.slice none 0 0), SC.b false, SC.b false, SC.s [], SC.s [], SC.i IntKind.i64 0, SC.b false, SC.s [], SC.v (Value.slice none 0 0), SC.s [], SC.i IntKind.i64 0, SC.s [], SC.i IntKind.u32 0, SC.s [], SC.i IntKind.i64 0, SC.i IntKind.u64 0, SC.i IntKind.i64 0, SC.b false, SC.b false, SC.i IntKind.u64 0, SC.b false, SC.b false, SC.b false, SC.i IntKind.i64 0], [(0, 11, true), (11, 13, true), (24, 1, false)], 0, 1, 4, IntKind.i64⟩ ∧ tiOf Tryz.prog 66 = some ⟨25, true, [SC.i IntKind.i64 0, SC.v (Value.slice none 0 0), SC.b false, SC.b false, SC.s [], SC.s [], SC.i IntKind.i64 0, SC.b false, SC.s [], SC.v (Value.slice none 0 0), SC.s [], SC.i IntKind.i64 0, SC.s [], SC.i IntKind.u32 0, SC.s [], SC.i IntKind.i64 0, SC.i IntKind.u64 0, SC.i IntKind.i64 0, SC.b false, SC.b false, SC.i IntKind.u64 0, SC.b false, SC.b false, SC.b false, SC.i IntKind.i64 0], [(0, 11, true), (11, 13, true), (24, 1, false)], 0, 1, 4, IntKind.i64⟩ ∧ tiOf Tryz.prog 67 = some ⟨1, false, [SC.v Value.nilFunc], [], 0, 1, 0, IntKind.i64⟩ ∧ tiOf Tryz.prog 68 = some ⟨1, false, [SC.v Value.nilFunc], [], 0, 1, 0, IntKind.i64⟩ ∧ tiOf Tryz.prog 69 = some ⟨1, false, [SC.v Value.nilFunc], [], 0, 1, 0, IntKind.i64⟩ ∧ tiOf Tryz.prog 70 = some ⟨1, false, [SC.v Value.nilFunc], [], 0, 1, 0, IntKind.i64⟩ ∧ tiOf Tryz.prog 71 = some ⟨1, false, [SC.v Value.nilFunc], [], 0, 1, 0, IntKind.i64⟩ ∧ tiOf Tryz.prog 72 = some ⟨1, false, [SC.v Value.nilFunc], [], 0, 1, 0, IntKind.i64⟩ ∧ tiOf Tryz.prog 73 = some ⟨1, false, [SC.v (Value.slice none 0 0)], [], 5, 1, 3, IntKind.i64⟩ ∧ tiOf Tryz.prog 74 = some ⟨1, false, [SC.v (Value.pointer none)], [], 76, 2, 6, IntKind.i64⟩ ∧ tiOf Tryz.prog 75 = some ⟨2, true, [SC.v (Value.pointer none), SC.v (Value.slice none 0 0)], [(0, 1, false), (1, 1, false)], 0, 1, 4, IntKind.i64⟩ ∧ tiOf Tryz.prog 76 = some ⟨2, true, [SC.v (Value.pointer none), SC.v (Value.slice none 0 0)], [(0, 1, false), (1, 1, false)], 0, 1, 4, IntKind.i64⟩ ∧ tiOf Tryz.prog 77 = some ⟨1, false, [SC.i IntKind.u64 0], [], 0, 1, 1, IntKind.u64⟩ ∧ tiOf Tryz.prog 78 = some ⟨1, false, [SC.v Value.nilIface], [], 0, 1, 8, IntKind.i64⟩ ∧ tiOf Tryz.prog 79 = some ⟨1, false, [SC.v Value.nilIface], [], 0, 1, 8, IntKind.i64⟩ :=
  ⟨ti60, ti61, ti62, ti63, ti64, ti65, ti66, ti67, ti68, ti69, ti70, ti71, ti72, ti73, ti74, ti75, ti76, ti77, ti78, ti79⟩
theorem lay4 : tiOf Tryz.prog 80 = some ⟨1, false, [SC.v Value.nilFunc], [], 0, 1, 0, IntKind.i64⟩ ∧ tiOf Tryz.prog 81 = some ⟨1, false, [SC.v Value.nilFunc], [], 0, 1, 0, IntKind.i64⟩ ∧ tiOf Tryz.prog 82 = some ⟨1, false, [SC.v (Value.tuple [Value.int IntKind.u64 0, Value.bool false].toArray)], [], 0, 1, 0, IntKind.i64⟩ ∧ tiOf Tryz.prog 83 = some ⟨1, false, [SC.v Value.nilFunc], [], 0, 1, 0, IntKind.i64⟩ ∧ tiOf Tryz.prog 84 = some ⟨1, false, [SC.v Value.nilFunc], [], 0, 1, 0, IntKind.i64⟩ ∧ tiOf Tryz.prog 85 = some ⟨1, false, [SC.v Value.nilFunc], [], 0, 1, 0, IntKind.i64⟩ ∧ tiOf Tryz.prog 86 = some ⟨1, false, [SC.v (Value.pointer none)], [], 33, 16, 6, IntKind.i64⟩ ∧ tiOf Tryz.prog 87 = some ⟨1, false, [SC.v Value.nilFunc], [], 0, 1, 0, IntKind.i64⟩ ∧ tiOf Tryz.prog 88 = some ⟨1, false, [SC.v (Value.tuple { toList := [Value.string { data := [].toArray }, Value.bool false] })], [], 0, 1, 0, IntKind.i64⟩ ∧ tiOf Tryz.prog 89 = some ⟨1, false, [SC.v Value.nilFunc], [], 0, 1, 0, IntKind.i64⟩ ∧ tiOf Tryz.prog 90 = some ⟨1, false, [SC.v (Value.tuple { toList := [Value.string { data := [].toArray }, Value.string { data := [].toArray }, Value.bool false] })], [], 0, 1, 0, IntKind.i64⟩ ∧ tiOf Tryz.prog 91 = some ⟨1, false, [SC.v Value.nilFunc], [], 0, 1, 0, IntKind.i64⟩ ∧ tiOf Tryz.prog 92 = some ⟨1, false, [SC.v Value.nilFunc], [], 0, 1, 0, IntKind.i64⟩ ∧ tiOf Tryz.prog 93 = some ⟨1, false, [SC.v Value.nilFunc], [], 0, 1, 0, IntKind.i64⟩ ∧ tiOf Tryz.prog 94 = some ⟨1, false, [SC.v Value.nilFunc], [], 0, 1, 0, IntKind.i64⟩ ∧ tiOf Tryz.prog 95 = some ⟨1, false, [SC.v (Value.tuple { toList := [Value.string { data := [].toArray }, Value.bool false, Value.bool false] })], [], 0, 1, 0, IntKind.i64⟩ ∧ tiOf Tryz.prog 96 = some ⟨1, false, [SC.v Value.nilFunc], [], 0, 1, 0, IntKind.i64⟩ ∧ tiOf Tryz.prog 97 = some ⟨1, false, [SC.v Value.nilFunc], [], 0, 1, 0, IntKind.i64⟩ ∧ tiOf Tryz.prog 98 = some ⟨1, false, [SC.v Value.nilFunc], [], 0, 1, 0, IntKind.i64⟩ ∧ tiOf Tryz.prog 99 = some ⟨3, true, [SC.b false, SC.b false, SC.b false], [], 4, 1, 5, IntKind.i64⟩ :=
  ⟨ti80, ti81, ti82, ti83, ti84, ti85, ti86, ti87, ti88, ti89, ti90, ti91, ti92, ti93, ti94, ti95, ti96, ti97, ti98, ti99⟩
theorem lay5 : tiOf Tryz.prog 100 = some ⟨1, false, [SC.v Value.nilFunc], [], 0, 1, 0, IntKind.i64⟩ ∧ tiOf Tryz.prog 101 = some ⟨1, false, [SC.v (Value.pointer none)], [], 5, 1, 6, IntKind.i64⟩ ∧ tiOf Tryz.prog 102 = some ⟨1, false, [SC.v Value.nilFunc], [], 0, 1, 0, IntKind.i64⟩ ∧ tiOf Tryz.prog 103 = some ⟨1, false, [SC.v Value.nilFunc], [], 0, 1, 0, IntKind.i64⟩ ∧ tiOf Tryz.prog 104 = some ⟨1, false, [SC.v (Value.tuple [Value.int IntKind.u32 0, Value.bool false].toArray)], [], 0, 1, 0, IntKind.i64⟩ ∧ tiOf Tryz.prog 105 = some ⟨1, false, [SC.v Value.nilFunc], [], 0, 1, 0, IntKind.i64⟩ ∧ tiOf Tryz.prog 106 = some ⟨1, false, [SC.v (Value.tuple [Value.int IntKind.u64 0, Value.nilIface].toArray)], [], 0, 1, 0, IntKind.i64⟩ ∧ tiOf Tryz.prog 107 = some ⟨1, false, [SC.v Value.nilFunc], [], 0, 1, 0, IntKind.i64⟩ ∧ tiOf Tryz.prog 108 = some ⟨1, false, [SC.v Value.nilFunc], [], 0, 1, 0, IntKind.i64⟩ ∧ tiOf Tryz.prog 109 = some ⟨1, false, [SC.v Value.nilFunc], [], 0, 1, 0, IntKind.i64⟩ ∧ tiOf Tryz.prog 110 = some ⟨24, true, [SC.i IntKind.u8 0, SC.i IntKind.u8 0, SC.i IntKind.u8 0, SC.i IntKind.u8 0, SC.i IntKind.u8 0, SC.i IntKind.u8 0, SC.i IntKind.u8 0, SC.i IntKind.u8 0, SC.i IntKind.u8 0, SC.i IntKind.u8 0, SC.i IntKind.u8 0, SC.i IntKind.u8 0, SC.i IntKind.u8 0, SC.i IntKind.u8 0, SC.i IntKind.u8 0, SC.i IntKind.u8 0, SC.i IntKind.u8 0, SC.i IntKind.u8 0, SC.i IntKind.u8 0, SC.i IntKind.u8 0, SC.i IntKind.u8 0, SC.i IntKind.u8 0, SC.i IntKind.u8 0, SC.i IntKind.u8 0], [], 5, 1, 5, IntKind.i64⟩ ∧ tiOf Tryz.prog 111 = some ⟨1, false, [SC.v Value.nilFunc], [], 0, 1, 0, IntKind.i64⟩ ∧ tiOf Tryz.prog 112 = some ⟨1, false, [SC.v Value.nilFunc], [], 0, 1, 0, IntKind.i64⟩ ∧ tiOf Tryz.prog 113 = some ⟨1, false, [SC.v (Value.tuple { toList := [Value.slice none 0 0, Value.string { data := [].toArray }] })], [], 0, 1, 0, IntKind.i64⟩ ∧ tiOf Tryz.prog 114 = some ⟨1, false, [SC.v Value.nilFunc], [], 0, 1, 0, IntKind.i64⟩ ∧ tiOf Tryz.prog 115 = some ⟨1, false, [SC.v (Value.pointer none)], [], 0, 1, 0, IntKind.i64⟩ ∧ tiOf Tryz.prog 116 = some ⟨1, false, [SC.v Value.nilFunc], [], 0, 1, 0, IntKind.i64⟩ ∧ tiOf Tryz.prog 117 = some ⟨1, false, [SC.v (Value.tuple [Value.int IntKind.i64 0, Value.bool false].toArray)], [], 0, 1, 0, IntKind.i64⟩ ∧ tiOf Tryz.prog 118 = some ⟨1, false, [SC.v Value.nilFunc], [], 0, 1, 0, IntKind.i64⟩ ∧ tiOf Tryz.prog 119 = some ⟨1, false, [SC.v Value.nilFunc], [], 0, 1, 0, IntKind.i64⟩ :=
  ⟨ti100, ti101, ti102, ti103, ti104, ti105, ti106, ti107, ti108, ti109, ti110, ti111, ti112, ti113, ti114, ti115, ti116, ti117, ti118, ti119⟩
theorem lay6 : tiOf Tryz.prog 120 = some ⟨1, false, [SC.v Value.nilFunc], [], 0, 1, 0, IntKind.i64⟩ ∧ tiOf Tryz.prog 121 = some ⟨1, false, [SC.v Value.nilFunc], [], 0, 1, 0, IntKind.i64⟩ ∧ tiOf Tryz.prog 122 = some ⟨1, false, [SC.v Value.nilFunc], [], 0, 1, 0, IntKind.i64⟩ ∧ tiOf Tryz.prog 123 = some ⟨256, true, [SC.b false, SC.b false, SC.b false, SC.b false, SC.b false, SC.b false, SC.b false, SC.b false, SC.b false, SC.b false, SC.b false, SC.b false, SC.b false, SC.b false, SC.b false, SC.b false, SC.b false, SC.b false, SC.b false, SC.b false, SC.b false, SC.b false, SC.b false, SC.b false, SC.b false, SC.b false, SC.b false, SC.b false, SC.b false, SC.b false, SC.b false, SC.b false, SC.b false, SC.b false, SC.b false, SC.b false, SC.b false, SC.b false, SC.b false, SC.b false, SC.b false, SC.b false, SC.b false, SC.b false, SC.b false, SC.b false, SC.b false, SC.b false, SC.b false, SC.b false, SC.b false, SC.b false, SC.b false, SC.b false, SC.b false, SC.b false, SC.b false, SC.b false, SC.b false, SC.b false, SC.b false, SC.b false, SC.b false, SC.b false, SC.b false, SC.b false, SC.b false, SC.b false, SC.b false, SC.b false, SC.b false, SC.b false, SC.b false, SC.b false, SC.b false, SC.b false, SC.b false, SC.b false, SC.b false, SC.b false, SC.b false, SC.b false, SC.b false, SC.b false, SC.b false, SC.b false, SC.b false, SC.b false, SC.b false, SC.b false, SC.b false, SC.b false, SC.b false, SC.b false, SC.b false, SC.b false, SC.b false, SC.b false, SC.b false, SC.b false, SC.b false, SC.b false, SC.b false, SC.b false, SC.b false, SC.b false, SC.b false, SC.b false, SC.b false, SC.b false, SC.b false, SC.b false, SC.b false, SC.b false, SC.b false, SC.b false, SC.b false, SC.b false, SC.b false, SC.b false, SC.b false, SC.b false, SC.b false, SC.b false, SC.b false, SC.b false, SC.b false, SC.b false, SC.b false, SC.b false, SC.b false, SC.b false, SC.b false, SC.b false, SC.b false, SC.b false, SC.b false, SC.b false, SC.b false, SC.b false, SC.b false, SC.b false, SC.b false, SC.b false, SC.b false, SC.b false, SC.b false, SC.b false, SC.b false, SC.b false, SC.b false, SC.b false, SC.b false, SC.b false, SC.b false, SC.b false, SC.b false, SC.b false, SC.b false, SC.b false, SC.b false, SC.b false, SC.b false, SC.b false, SC.b false, SC.b false, SC.b false, SC.b false, SC.b false, SC.b false, SC.b false, SC.b false, SC.b false, SC.b false, SC.b false, SC.b false, SC.b false, SC.b false, SC.b false, SC.b false, SC.b false, SC.b false, SC.b false, SC.b false, SC.b false, SC.b false, SC.b false, SC.b false, SC.b false, SC.b false, SC.b false, SC.b false, SC.b false, SC.b false, SC.b false, SC.b false, SC.b false, SC.b false, SC.b false, SC.b false, SC.b false, SC.b false, SC.b false, SC.b false, SC.b false, SC.b false, SC.b false, SC.b false, SC.b false, SC.b false, SC.b false, SC.b false, SC.b false, SC.b false, SC.b false, SC.b false, SC.b false, SC.b false, SC.b false, SC.b false, SC.b false, SC.b false, SC.b false, SC.b false, SC.b false, SC.b false, SC.b false, SC.b false, SC.b false, SC.b false, SC.b false, SC.b false, SC.b false, SC.b false, SC.b false, SC.b false, SC.b false, SC.b false, SC.b false, SC.b false, SC.b false, SC.b false, SC.b false, SC.b false, SC.b false, SC.b false, SC.b false, SC.b false, SC.b false, SC.b false, SC.b false, SC.b false, SC.b false, SC.b false, SC.b false, SC.b false], [], 4, 1, 5, IntKind.i64⟩ ∧ tiOf Tryz.prog 124 = some ⟨256, true, [SC.b false, SC.b false, SC.b false, SC.b false, SC.b false, SC.b false, SC.b false, SC.b false, SC.b false, SC.b false, SC.b false, SC.b false, SC.b false, SC.b false, SC.b false, SC.b false, SC.b false, SC.b false, SC.b false, SC.b false, SC.b false, SC.b false, SC.b false, SC.b false, SC.b false, SC.b false, SC.b false, SC.b false, SC.b false, SC.b false, SC.b false, SC.b false, SC.b false, SC.b false, SC.b false, SC.b false, SC.b false, SC.b false, SC.b false, SC.b false, SC.b false, SC.b false, SC.b false, SC.b false, SC.b false, SC.b false, SC.b false, SC.b false, SC.b false, SC.b false, SC.b false, SC.b false, SC.b false, SC.b false, SC.b false, SC.b false, SC.b false, SC.b false, SC.b false, SC.b false, SC.b false, SC.b false, SC.b false, SC.b false, SC.b false, SC.b false, SC.b false, SC.b false, SC.b false, SC.b false, SC.b false, SC.b false, SC.b false, SC.b false, SC.b false, SC.b false, SC.b false, SC.b false, SC.b false, SC.b false, SC.b false, SC.b false, SC.b false, SC.b false, SC.b false, SC.b false, SC.b false, SC.b false, SC.b false, SC.b false, SC.b false, SC.b false, SC.b false, SC.b false, SC.b false, SC.b false, SC.b false, SC.b false, SC.b false, SC.b false, SC.b false, SC.b false, SC.b false, SC.b false, SC.b false, SC.b false, SC.b false, SC.b false, SC.b false, SC.b false, SC.b false, SC.b false, SC.b false, SC.b false, SC.b false, SC.b false, SC.b false, SC.b false, SC.b false, SC.b false, SC.b false, SC.b false, SC.b false, SC.b false, SC.b false, SC.b false, SC.b false, SC.b false, SC.b false, SC.b false, SC.b false, SC.b false, SC.b false, SC.b false, SC.b false, SC.b false, SC.b false, SC.b false, SC.b false, SC.b false, SC.b false, SC.b false, SC.b false, SC.b false, SC.b false, SC.b false, SC.b false, SC.b false, SC.b false, SC.b false, SC.b false, SC.b false, SC.b false, SC.b false, SC.b false, SC.b false, SC.b false, SC.b false, SC.b false, SC.b false, SC.b false, SC.b false, SC.b false, SC.b false, SC.b false, SC.b false, SC.b false, SC.b false, SC.b false, SC.b false, SC.b false, SC.b false, SC.b false, SC.b false, SC.b false, SC.b false, SC.b false, SC.b false, SC.b false, SC.b false, SC.b false, SC.b false, SC.b false, SC.b false, SC.b false, SC.b false, SC.b false, SC.b false, SC.b false, SC.b false, SC.b false, SC.b false, SC.b false, SC.b false, SC.b false, SC.b false, SC.b false, SC.b false, SC.b false, SC.b false, SC.b false, SC.b false, SC.b false, SC.b false, SC.b false, SC.b false, SC.b false, SC.b false, SC.b false, SC.b false, SC.b false, SC.b false, SC.b false, SC.b false, SC.b false, SC.b false, SC.b false, SC.b false, SC.b false, SC.b false, SC.b false, SC.b false, SC.b false, SC.b false, SC.b false, SC.b false, SC.b false, SC.b false, SC.b false, SC.b false, SC.b false, SC.b false, SC.b false, SC.b false, SC.b false, SC.b false, SC.b false, SC.b false, SC.b false, SC.b false, SC.b false, SC.b false, SC.b false, SC.b false, SC.b false, SC.b false, SC.b false, SC.b false, SC.b false, SC.b false, SC.b false, SC.b false, SC.b false, SC.b false, SC.b false, SC.b false], [], 4, 1, 5, IntKind.i64⟩ ∧ tiOf Tryz.prog 125 = some ⟨1, false, [SC.v (Value.tuple { toList := [Value.agg [Value.bool false, Value.bool false, Value.bool false, Value.bool false, Value.bool false, Value.bool false, Value.bool false, Value.bool false, Value.bool false, Value.bool false, Value.bool false, Value.bool false, Value.bool false, Value.bool false, Value.bool false, Value.bool false, Value.bool false, Value.bool false, Value.bool false, Value.bool false, Value.bool false, Value.bool false, Value.bool false, Value.bool false, Value.bool false, Value.bool false, Value.bool false, Value.bool false, Value.bool false, Value.bool false, Value.bool false, Value.bool false, Value.bool false, Value.bool false, Value.bool false, Value.bool false, Value.bool false, Value.bool false, Value.bool false, Value.bool false, Value.bool false, Value.bool false, Value.bool false, Value.bool false, Value.bool false, Value.bool false, Value.bool false, Value.bool false, Value.bool false, Value.bool false, Value.bool false, Value.bool false, Value.bool false, Value.bool false, Value.bool false, Value.bool false, Value.bool false, Value.bool false, Value.bool false, Value.bool false, Value.bool false, Value.bool false, Value.bool false, Value.bool false, Value.bool false, Value.bool false, Value.bool false, Value.bool false, Value.bool false, Value.bool false, Value.bool false, Value.bool false, Value.bool false, Value.bool false, Value.bool false, Value.bool false, Value.bool false, Value.bool false, Value.bool false, Value.bool false, Value.bool false, Value.bool false, Value.bool false, Value.bool false, Value.bool false, Value.bool false, Value.bool false, Value.bool false, Value.bool false, Value.bool false, Value.bool false, Value.bool false, Value.bool false, Value.bool false, Value.bool false, Value.bool false, Value.bool false, Value.bool false, Value.bool false, Value.bool false, Value.bool false, Value.bool false, Value.bool false, Value.bool false, Value.bool false, Value.bool false, Value.bool false, Value.bool false, Value.bool false, Value.bool false, Value.bool false, Value.bool false, Value.bool false, Value.bool false, Value.bool false, Value.bool false, Value.bool false, Value.bool false, Value.bool false, Value.bool false, Value.bool false, Value.bool false, Value.bool false, Value.bool false, Value.bool false, Value.bool false, Value.bool false, Value.bool false, Value.bool false, Value.bool false, Value.bool false, Value.bool false, Value.bool false, Value.bool false, Value.bool false, Value.bool false, Value.bool false, Value.bool false, Value.bool false, Value.bool false, Value.bool false, Value.bool false, Value.bool false, Value.bool false, Value.bool false, Value.bool false, Value.bool false, Value.bool false, Value.bool false, Value.bool false, Value.bool false, Value.bool false, Value.bool false, Value.bool false, Value.bool false, Value.bool false, Value.bool false, Value.bool false, Value.bool false, Value.bool false, Value.bool false, Value.bool false, Value.bool false, Value.bool false, Value.bool false, Value.bool false, Value.bool false, Value.bool false, Value.bool false, Value.bool false, Value.bool false, Value.bool false, Value.bool false, Value.bool false, Value.bool false, Value.bool false, Value.bool false, Value.bool false, Value.bool false, Value.bool false, Value.bool false, Value.bool false, Value.bool false, Value.bool false, Value.bool false, Value.bool false, Value.bool false, Value.bool false, Value.bool false, Value.bool false, Value.bool false, Value.bool false, Value.bool false, Value.bool false, Value.bool false, Value.bool false, Value.bool false, Value.bool false, Value.bool false, Value.bool false, Value.bool false, Value.bool false, Value.bool false, Value.bool false, Value.bool false, Value.bool false, Value.bool false, Value.bool false, Value.bool false, Value.bool false, Value.bool false, Value.bool false, Value.bool false, Value.bool false, Value.bool false, Value.bool false, Value.bool false, Value.bool false, Value.bool false, Value.bool false, Value.bool false, Value.bool false, Value.bool false, Value.bool false, Value.bool false, Value.bool false, Value.bool false, Value.bool false, Value.bool false, Value.bool false, Value.bool false, Value.bool false, Value.bool false, Value.bool false, Value.bool false, Value.bool false, Value.bool false, Value.bool false, Value.bool false, Value.bool false, Value.bool false, Value.bool false, Value.bool false, Value.bool false, Value.bool false, Value.bool false, Value.bool false, Value.bool false, Value.bool false, Value.bool false, Value.bool false, Value.bool false, Value.bool false, Value.bool false, Value.bool false, Value.bool false].toArray, Value.bool false] })], [], 0, 1, 0, IntKind.i64⟩ ∧ tiOf Tryz.prog 126 = some ⟨1, false, [SC.v Value.nilFunc], [], 0, 1, 0, IntKind.i64⟩ ∧ tiOf Tryz.prog 127 = some ⟨1, false, [SC.v Value.nilFunc], [], 0, 1, 0, IntKind.i64⟩ ∧ tiOf Tryz.prog 128 = some ⟨1, false, [SC.v (Value.pointer none)], [], 124, 256, 6, IntKind.i64⟩ ∧ tiOf Tryz.prog 129 = some ⟨1, false, [SC.v Value.nilFunc], [], 0, 1, 0, IntKind.i64⟩ ∧ tiOf Tryz.prog 130 = some ⟨1, false, [SC.v Value.nilFunc], [], 0, 1, 0, IntKind.i64⟩ ∧ tiOf Tryz.prog 131 = some ⟨1, false, [SC.v (Value.tuple [Value.int IntKind.i64 0, Value.nilIface].toArray)], [], 0, 1, 0, IntKind.i64⟩ ∧ tiOf Tryz.prog 132 = some ⟨1, false, [SC.v Value.nilFunc], [], 0, 1, 0, IntKind.i64⟩ ∧ tiOf Tryz.prog 133 = some ⟨1, false, [SC.v Value.nilFunc], [], 0, 1, 0, IntKind.i64⟩ ∧ tiOf Tryz.prog 134 = some ⟨1, false, [SC.v Value.nilFunc], [], 0, 1, 0, IntKind.i64⟩ ∧ tiOf Tryz.prog 135 = some ⟨20, true, [SC.i IntKind.u64 0, SC.i IntKind.u64 0, SC.i IntKind.u64 0, SC.i IntKind.u64 0, SC.i IntKind.u64 0, SC.i IntKind.u64 0, SC.i IntKind.u64 0, SC.i IntKind.u64 0, SC.i IntKind.u64 0, SC.i IntKind.u64 0, SC.i IntKind.u64 0, SC.i IntKind.u64 0, SC.i IntKind.u64 0, SC.i IntKind.u64 0, SC.i IntKind.u64 0, SC.i IntKind.u64 0, SC.i IntKind.u64 0, SC.i IntKind.u64 0, SC.i IntKind.u64 0, SC.i IntKind.u64 0], [], 31, 1, 5, IntKind.i64⟩ ∧ tiOf Tryz.prog 136 = some ⟨65, true, [SC.i IntKind.u8 0, SC.i IntKind.u8 0, SC.i IntKind.u8 0, SC.i IntKind.u8 0, SC.i IntKind.u8 0, SC.i IntKind.u8 0, SC.i IntKind.u8 0, SC.i IntKind.u8 0, SC.i IntKind.u8 0, SC.i IntKind.u8 0, SC.i IntKind.u8 0, SC.i IntKind.u8 0, SC.i IntKind.u8 0, SC.i IntKind.u8 0, SC.i IntKind.u8 0, SC.i IntKind.u8 0, SC.i IntKind.u8 0, SC.i IntKind.u8 0, SC.i IntKind.u8 0, SC.i IntKind.u8 0, SC.i IntKind.u8 0, SC.i IntKind.u8 0, SC.i IntKind.u8 0, SC.i IntKind.u8 0, SC.i IntKind.u8 0, SC.i IntKind.u8 0, SC.i IntKind.u8 0, SC.i IntKind.u8 0, SC.i IntKind.u8 0, SC.i IntKind.u8 0, SC.i IntKind.u8 0, SC.i IntKind.u8 0, SC.i IntKind.u8 0, SC.i IntKind.u8 0, SC.i IntKind.u8 0, SC.i IntKind.u8 0, SC.i IntKind.u8 0, SC.i IntKind.u8 0, SC.i IntKind.u8 0, SC.i IntKind.u8 0, SC.i IntKind.u8 0, SC.i IntKind.u8 0, SC.i IntKind.u8 0, SC.i IntKind.u8 0, SC.i IntKind.u8 0, SC.i IntKind.u8 0, SC.i IntKind.u8 0, SC.i IntKind.u8 0, SC.i IntKind.u8 0, SC.i IntKind.u8 0, SC.i IntKind.u8 0, SC.i IntKind.u8 0, SC.i IntKind.u8 0, SC.i IntKind.u8 0, SC.i IntKind.u8 0, SC.i IntKind.u8 0, SC.i IntKind.u8 0, SC.i IntKind.u8 0, SC.i IntKind.u8 0, SC.i IntKind.u8 0, SC.i IntKind.u8 0, SC.i IntKind.u8 0, SC.i IntKind.u8 0, SC.i IntKind.u8 0, SC.i IntKind.u8 0], [], 5, 1, 5, IntKind.i64⟩ ∧ tiOf Tryz.prog 137 = some ⟨1, false, [SC.v Value.nilFunc], [], 0, 1, 0, IntKind.i64⟩ ∧ tiOf Tryz.prog 138 = some ⟨1, false, [SC.v Value.nilFunc], [], 0, 1, 0, IntKind.i64⟩ ∧ tiOf Tryz.prog 139 = some ⟨1, false, [SC.v Value.nilFunc], [], 0, 1, 0, IntKind.i64⟩ :=
  ⟨ti120, ti121, ti122, ti123, ti124, ti125, ti126, ti127, ti128, ti129, ti130, ti131, ti132, ti133, ti134, ti135, ti136, ti137, ti138, ti139⟩
theorem lay7 : tiOf Tryz.prog 140 = some ⟨1, false, [SC.v (Value.tuple [Value.int IntKind.i32 0, Value.int IntKind.i64 0].toArray)], [], 0, 1, 0, IntKind.i64⟩ ∧ tiOf Tryz.prog 141 = some ⟨1, false, [SC.v Value.nilFunc], [], 0, 1, 0, IntKind.i64⟩ ∧ tiOf Tryz.prog 142 = some ⟨1, false, [SC.v Value.nilFunc], [], 0, 1, 0, IntKind.i64⟩ ∧ tiOf Tryz.prog 143 = some ⟨1, false, [SC.i IntKind.i64 0], [], 0, 1, 1, IntKind.i64⟩ ∧ tiOf Tryz.prog 144 = some ⟨1, false, [SC.v Value.nilFunc], [], 0, 1, 0, IntKind.i64⟩ ∧ tiOf Tryz.prog 145 = some ⟨1, false, [SC.v (Value.pointer none)], [], 153, 3, 6, IntKind.i64⟩ ∧ tiOf Tryz.prog 146 = some ⟨1, false, [SC.v Value.nilFunc], [], 0, 1, 0, IntKind.i64⟩ ∧ tiOf Tryz.prog 147 = some ⟨1, false, [SC.v Value.nilFunc], [], 0, 1, 0, IntKind.i64⟩ ∧ tiOf Tryz.prog 148 = some ⟨1, false, [SC.v Value.nilFunc], [], 0, 1, 0, IntKind.i64⟩ ∧ tiOf Tryz.prog 149 = some ⟨1, false, [SC.v (Value.tuple [Value.int IntKind.u32 0, Value.int IntKind.u32 0].toArray)], [], 0, 1, 0, IntKind.i64⟩ ∧ tiOf Tryz.prog 150 = some ⟨1, false, [SC.v Value.nilFunc], [], 0, 1, 0, IntKind.i64⟩ ∧ tiOf Tryz.prog 151 = some ⟨1, false, [SC.v Value.nilFunc], [], 0, 1, 0, IntKind.i64⟩ ∧ tiOf Tryz.prog 152 = some ⟨3, true, [SC.s [], SC.s [], SC.v Value.nilIface], [(0, 1, false), (1, 1, false), (2, 1, false)], 0, 1, 4, IntKind.i64⟩ ∧ tiOf Tryz.prog 153 = some ⟨3, true, [SC.s [], SC.s [], SC.v Value.nilIface], [(0, 1, false), (1, 1, false), (2, 1, false)], 0, 1, 4, IntKind.i64⟩ ∧ tiOf Tryz.prog 154 = some ⟨1, false, [SC.v Value.nilFunc], [], 0, 1, 0, IntKind.i64⟩ ∧ tiOf Tryz.prog 155 = some ⟨1, false, [SC.v (Value.tuple [Value.int IntKind.i64 0, Value.nilIface].toArray)], [], 0, 1, 0, IntKind.i64⟩ ∧ tiOf Tryz.prog 156 = some ⟨1, false, [SC.v Value.nilFunc], [], 0, 1, 0, IntKind.i64⟩ ∧ tiOf Tryz.prog 157 = some ⟨1, false, [SC.v Value.nilFunc], [], 0, 1, 0, IntKind.i64⟩ ∧ tiOf Tryz.prog 158 = some ⟨32, true, [SC.i IntKind.u8 0, SC.i IntKind.u8 0, SC.i IntKind.u8 0, SC.i IntKind.u8 0, SC.i IntKind.u8 0, SC.i IntKind.u8 0, SC.i IntKind.u8 0, SC.i IntKind.u8 0, SC.i IntKind.u8 0, SC.i IntKind.u8 0, SC.i IntKind.u8 0, SC.i IntKind.u8 0, SC.i IntKind.u8 0, SC.i IntKind.u8 0, SC.i IntKind.u8 0, SC.i IntKind.u8 0, SC.i IntKind.u8 0, SC.i IntKind.u8 0, SC.i IntKind.u8 0, SC.i IntKind.u8 0, SC.i IntKind.u8 0, SC.i IntKind.u8 0, SC.i IntKind.u8 0, SC.i IntKind.u8 0, SC.i IntKind.u8 0, SC.i IntKind.u8 0, SC.i IntKind.u8 0, SC.i IntKind.u8 0, SC.i IntKind.u8 0, SC.i IntKind.u8 0, SC.i IntKind.u8 0, SC.i IntKind.u8 0], [], 5, 1, 5, IntKind.i64⟩ ∧ tiOf Tryz.prog 159 = some ⟨64, true, [SC.i IntKind.u8 0, SC.i IntKind.u8 0, SC.i IntKind.u8 0, SC.i IntKind.u8 0, SC.i IntKind.u8 0, SC.i IntKind.u8 0, SC.i IntKind.u8 0, SC.i IntKind.u8 0, SC.i IntKind.u8 0, SC.i IntKind.u8 0, SC.i IntKind.u8 0, SC.i IntKind.u8 0, SC.i IntKind.u8 0, SC.i IntKind.u8 0, SC.i IntKind.u8 0, SC.i IntKind.u8 0, SC.i IntKind.u8 0, SC.i IntKind.u8 0, SC.i IntKind.u8 0, SC.i IntKind.u8 0, SC.i IntKind.u8 0, SC.i IntKind.u8 0, SC.i IntKind.u8 0, SC.i IntKind.u8 0, SC.i IntKind.u8 0, SC.i IntKind.u8 0, SC.i IntKind.u8 0, SC.i IntKind.u8 0, SC.i IntKind.u8 0, SC.i IntKind.u8 0, SC.i IntKind.u8 0, SC.i IntKind.u8 0, SC.i IntKind.u8 0, SC.i IntKind.u8 0, SC.i IntKind.u8 0, SC.i IntKind.u8 0, SC.i IntKind.u8 0, SC.i IntKind.u8 0, SC.i IntKind.u8 0, SC.i IntKind.u8 0, SC.i IntKind.u8 0, SC.i IntKind.u8 0, SC.i IntKind.u8 0, SC.i IntKind.u8 0, SC.i IntKind.u8 0, SC.i IntKind.u8 0, SC.i IntKind.u8 0, SC.i IntKind.u8 0, SC.i IntKind.u8 0, SC.i IntKind.u8 0, SC.i IntKind.u8 0, SC.i IntKind.u8 0, SC.i IntKind.u8 0, SC.i IntKind.u8 0, SC.i IntKind.u8 0, SC.i IntKind.u8 0, SC.i IntKind.u8 0, SC.i IntKind.u8 0, SC.i IntKind.u8 0, SC.i IntKind.u8 0, SC.i IntKind.u8 0, SC.i IntKind.u8 0, SC.i IntKind.u8 0, SC.i IntKind.u8 0], [], 5, 1, 5, IntKind.i64⟩ :=
  ⟨ti140, ti141, ti142, ti143, ti144, ti145, ti146, ti147, ti148, ti149, ti150, ti151, ti152, ti153, ti154, ti155, ti156, ti157, ti158, ti159⟩
theorem lay8 : tiOf Tryz.prog 160 = some ⟨256, true, [SC.i IntKind.u8 0, SC.i IntKind.u8 0, SC.i IntKind.u8 0, SC.i IntKind.u8 0, SC.i IntKind.u8 0, SC.i IntKind.u8 0, SC.i IntKind.u8 0, SC.i IntKind.u8 0, SC.i IntKind.u8 0, SC.i IntKind.u8 0, SC.i IntKind.u8 0, SC.i IntKind.u8 0, SC.i IntKind.u8 0, SC.i IntKind.u8 0, SC.i IntKind.u8 0, SC.i IntKind.u8 0, SC.i IntKind.u8 0, SC.i IntKind.u8 0, SC.i IntKind.u8 0, SC.i IntKind.u8 0, SC.i IntKind.u8 0, SC.i IntKind.u8 0, SC.i IntKind.u8 0, SC.i IntKind.u8 0, SC.i IntKind.u8 0, SC.i IntKind.u8 0, SC.i IntKind.u8 0, SC.i IntKind.u8 0, SC.i IntKind.u8 0, SC.i IntKind.u8 0, SC.i IntKind.u8 0, SC.i IntKind.u8 0, SC.i IntKind.u8 0, SC.i IntKind.u8 0, SC.i IntKind.u8 0, SC.i IntKind.u8 0, SC.i IntKind.u8 0, SC.i IntKind.u8 0, SC.i IntKind.u8 0, SC.i IntKind.u8 0, SC.i IntKind.u8 0, SC.i IntKind.u8 0, SC.i IntKind.u8 0, SC.i IntKind.u8 0, SC.i IntKind.u8 0, SC.i IntKind.u8 0, SC.i IntKind.u8 0, SC.i IntKind.u8 0, SC.i IntKind.u8 0, SC.i IntKind.u8 0, SC.i IntKind.u8 0, SC.i IntKind.u8 0, SC.i IntKind.u8 0, SC.i IntKind.u8 0, SC.i IntKind.u8 0, SC.i IntKind.u8 0, SC.i IntKind.u8 0, SC.i IntKind.u8 0, SC.i IntKind.u8 0, SC.i IntKind.u8 0, SC.i IntKind.u8 0, SC.i IntKind.u8 0, SC.i IntKind.u8 0, SC.i IntKind.u8 0, SC.i IntKind.u8 0, SC.i IntKind.u8 0, SC.i IntKind.u8 0, SC.i IntKind.u8 0, SC.i IntKind.u8 0, SC.i IntKind.u8 0, SC.i IntKind.u8 0, SC.i IntKind.u8 0, SC.i IntKind.u8 0, SC.i IntKind.u8 0, SC.i IntKind.u8 0, SC.i IntKind.u8 0, SC.i IntKind.u8 0, SC.i IntKind.u8 0, SC.i IntKind.u8 0, SC.i IntKind.u8 0, SC.i IntKind.u8 0, SC.i IntKind.u8 0, SC.i IntKind.u8 0, SC.i IntKind.u8 0, SC.i IntKind.u8 0, SC.i IntKind.u8 0, SC.i IntKind.u8 0, SC.i IntKind.u8 0, SC.i IntKind.u8 0, SC.i IntKind.u8 0, SC.i IntKind.u8 0, SC.i IntKind.u8 0, SC.i IntKind.u8 0, SC.i IntKind.u8 0, SC.i IntKind.u8 0, SC.i IntKind.u8 0, SC.i IntKind.u8 0, SC.i IntKind.u8 0, SC.i IntKind.u8 0, SC.i IntKind.u8 0, SC.i IntKind.u8 0, SC.i IntKind.u8 0, SC.i IntKind.u8 0, SC.i IntKind.u8 0, SC.i IntKind.u8 0, SC.i IntKind.u8 0, SC.i IntKind.u8 0, SC.i IntKind.u8 0, SC.i IntKind.u8 0, SC.i IntKind.u8 0, SC.i IntKind.u8 0, SC.i IntKind.u8 0, SC.i IntKind.u8 0, SC.i IntKind.u8 0, SC.i IntKind.u8 0, SC.i IntKind.u8 0, SC.i IntKind.u8 0, SC.i IntKind.u8 0, SC.i IntKind.u8 0, SC.i IntKind.u8 0, SC.i IntKind.u8 0, SC.i IntKind.u8 0, SC.i IntKind.u8 0, SC.i IntKind.u8 0, SC.i IntKind.u8 0, SC.i IntKind.u8 0, SC.i IntKind.u8 0, SC.i IntKind.u8 0, SC.i IntKind.u8 0, SC.i IntKind.u8 0, SC.i IntKind.u8 0, SC.i IntKind.u8 0, SC.i IntKind.u8 0, SC.i IntKind.u8 0, SC.i IntKind.u8 0, SC.i IntKind.u8 0, SC.i IntKind.u8 0, SC.i IntKind.u8 0, SC.i IntKind.u8 0, SC.i IntKind.u8 0, SC.i IntKind.u8 0, SC.i IntKind.u8 0, SC.i IntKind.u8 0, SC.i IntKind.u8 0, SC.i IntKind.u8 0, SC.i IntKind.u8 0, SC.i IntKind.u8 0, SC.i IntKind.u8 0, SC.i IntKind.u8 0, SC.i IntKind.u8 0, SC.i IntKind.u8 0, SC.i IntKind.u8 0, SC.i IntKind.u8 0, SC.i IntKind.u8 0, SC.i IntKind.u8 0, SC.i IntKind.u8 0, SC.i IntKind.u8 0, SC.i IntKind.u8 0, SC.i IntKind.u8 0, SC.i IntKind.u8 0, SC.i IntKind.u8 0, SC.i IntKind.u8 0, SC.i IntKind.u8 0, SC.i IntKind.u8 0, SC.i IntKind.u8 0, SC.i IntKind.u8 0, SC.i IntKind.u8 0, SC.i IntKind.u8 0, SC.i IntKind.u8 0, SC.i IntKind.u8 0, SC.i IntKind.u8 0, SC.i IntKind.u8 0, SC.i IntKind.u8 0, SC.i IntKind.u8 0, SC.i IntKind.u8 0, SC.i IntKind.u8 0, SC.i IntKind.u8 0, SC.i IntKind.u8 0, SC.i IntKind.u8 0, SC.i IntKind.u8 0, SC.i IntKind.u8 0, SC.i IntKind.u8 0, SC.i IntKind.u8 0, SC.i IntKind.u8 0, SC.i IntKind.u8 0, SC.i IntKind.u8 0, SC.i IntKind.u8 0, SC.i IntKind.u8 0, SC.i IntKind.u8 0, SC.i IntKind.u8 0, SC.i IntKind.u8 0, SC.i IntKind.u8 0, SC.i IntKind.u8 0, SC.i IntKind.u8 0, SC.i IntKind.u8 0, SC.i IntKind.u8 0, SC.i IntKind.u8 0, SC.i IntKind.u8 0, SC.i IntKind.u8 0, SC.i IntKind.u8 0, SC.i IntKind.u8 0, SC.i IntKind.u8 0, SC.i IntKind.u8 0, SC.i IntKind.u8 0, SC.i IntKind.u8 0, SC.i IntKind.u8 0, SC.i IntKind.u8 0, SC.i IntKind.u8 0, SC.i IntKind.u8 0, SC.i IntKind.u8 0, SC.i IntKind.u8 0, SC.i IntKind.u8 0, SC.i IntKind.u8 0, SC.i IntKind.u8 0, SC.i IntKind.u8 0, SC.i IntKind.u8 0, SC.i IntKind.u8 0, SC.i IntKind.u8 0, SC.i IntKind.u8 0, SC.i IntKind.u8 0, SC.i IntKind.u8 0, SC.i IntKind.u8 0, SC.i IntKind.u8 0, SC.i IntKind.u8 0, SC.i IntKind.u8 0, SC.i IntKind.u8 0, SC.i IntKind.u8 0, SC.i IntKind.u8 0, SC.i IntKind.u8 0, SC.i IntKind.u8 0, SC.i IntKind.u8 0, SC.i IntKind.u8 0, SC.i IntKind.u8 0, SC.i IntKind.u8 0, SC.i IntKind.u8 0, SC.i IntKind.u8 0, SC.i IntKind.u8 0, SC.i IntKind.u8 0, SC.i IntKind.u8 0, SC.i IntKind.u8 0, SC.i IntKind.u8 0, SC.i IntKind.u8 0, SC.i IntKind.u8 0, SC.i IntKind.u8 0, SC.i IntKind.u8 0, SC.i IntKind.u8 0, SC.i IntKind.u8 0, SC.i IntKind.u8 0, SC.i IntKind.u8 0, SC.i IntKind.u8 0, SC.i IntKind.u8 0, SC.i IntKind.u8 0, SC.i IntKind.u8 0, SC.i IntKind.u8 0, SC.i IntKind.u8 0, SC.i IntKind.u8 0], [], 5, 1, 5, IntKind.i64⟩ ∧ tiOf Tryz.prog 161 = some ⟨2, true, [SC.i IntKind.u8 0, SC.i IntKind.u8 0], [(0, 1, false), (1, 1, false)], 0, 1, 4, IntKind.i64⟩ ∧ tiOf Tryz.prog 162 = some ⟨2, true, [SC.i IntKind.u8 0, SC.i IntKind.u8 0], [(0, 1, false), (1, 1, false)], 0, 1, 4, IntKind.i64⟩ ∧ tiOf Tryz.prog 163 = some ⟨32, true, [SC.i IntKind.u8 0, SC.i IntKind.u8 0, SC.i IntKind.u8 0, SC.i IntKind.u8 0, SC.i IntKind.u8 0, SC.i IntKind.u8 0, SC.i IntKind.u8 0, SC.i IntKind.u8 0, SC.i IntKind.u8 0, SC.i IntKind.u8 0, SC.i IntKind.u8 0, SC.i IntKind.u8 0, SC.i IntKind.u8 0, SC.i IntKind.u8 0, SC.i IntKind.u8 0, SC.i IntKind.u8 0, SC.i IntKind.u8 0, SC.i IntKind.u8 0, SC.i IntKind.u8 0, SC.i IntKind.u8 0, SC.i IntKind.u8 0, SC.i IntKind.u8 0, SC.i IntKind.u8 0, SC.i IntKind.u8 0, SC.i IntKind.u8 0, SC.i IntKind.u8 0, SC.i IntKind.u8 0, SC.i IntKind.u8 0, SC.i IntKind.u8 0, SC.i IntKind.u8 0, SC.i IntKind.u8 0, SC.i IntKind.u8 0], [], 162, 2, 5, IntKind.i64⟩ ∧ tiOf Tryz.prog 164 = some ⟨1, false, [SC.v Value.nilFunc], [], 0, 1, 0, IntKind.i64⟩ ∧ tiOf Tryz.prog 165 = some ⟨1, false, [SC.v (Value.pointer none)], [], 167, 1, 6, IntKind.i64⟩ ∧ tiOf Tryz.prog 166 = some ⟨1, true, [SC.s []], [(0, 1, false)], 0, 1, 4, IntKind.i64⟩ ∧ tiOf Tryz.prog 167 = some ⟨1, true, [SC.s []], [(0, 1, false)], 0, 1, 4, IntKind.i64⟩ ∧ tiOf Tryz.prog 168 = some ⟨1, false, [SC.v Value.nilFunc], [], 0, 1, 0, IntKind.i64⟩ ∧ tiOf Tryz.prog 169 = some ⟨4, true, [SC.v (Value.pointer none), SC.v (Value.pointer none), SC.v (Value.pointer none), SC.s []], [(0, 1, false), (1, 1, false), (2, 1, false), (3, 1, false)], 0, 1, 4, IntKind.i64⟩ ∧ tiOf Tryz.prog 170 = some ⟨4, true, [SC.v (Value.pointer none), SC.v (Value.pointer none), SC.v (Value.pointer none), SC.s []], [(0, 1, false), (1, 1, false), (2, 1, false), (3, 1, false)], 0, 1, 4, IntKind.i64⟩ ∧ tiOf Tryz.prog 171 = some ⟨0, true, [], [], 16, 1, 5, IntKind.i64⟩ ∧ tiOf Tryz.prog 172 = some ⟨0, true, [], [(0, 0, true)], 0, 1, 4, IntKind.i64⟩ ∧ tiOf Tryz.prog 173 = some ⟨0, true, [], [(0, 0, true)], 0, 1, 4, IntKind.i64⟩ ∧ tiOf Tryz.prog 174 = some ⟨1, false, [SC.i IntKind.u8 0], [], 0, 1, 1, IntKind.u8⟩ ∧ tiOf Tryz.prog 175 = some ⟨1, false, [SC.i IntKind.u8 0], [], 0, 1, 1, IntKind.u8⟩ ∧ tiOf Tryz.prog 176 = some ⟨1, false, [SC.v Value.nilFunc], [], 0, 1, 0, IntKind.i64⟩ ∧ tiOf Tryz.prog 177 = some ⟨1, false, [SC.i IntKind.i32 0], [], 0, 1, 1, IntKind.i32⟩ ∧ tiOf Tryz.prog 178 = some ⟨1, false, [SC.i IntKind.i32 0], [], 0, 1, 1, IntKind.i32⟩ ∧ tiOf Tryz.prog 179 = some ⟨11, true, [SC.i IntKind.u64 0, SC.i IntKind.u64 0, SC.i IntKind.u32 0, SC.i IntKind.u8 0, SC.i IntKind.u8 0, SC.i IntKind.u8 0, SC.i IntKind.u8 0, SC.v Value.nilFunc, SC.v (Value.pointer none), SC.i IntKind.i32 0, SC.i IntKind.i32 0], [(0, 1, false), (1, 1, false), (2, 1, false), (3, 1, false), (4, 1, false), (5, 1, false), (6, 1, false), (7, 1, false), (8, 1, false), (9, 1, false), (10, 1, false)], 0, 1, 4, IntKind.i64⟩ :=
  ⟨ti160, ti161, ti162, ti163, ti164, ti165, ti166, ti167, ti168, ti169, ti170, ti171, ti172, ti173, ti174, ti175, ti176, ti177, ti178, ti179⟩
theorem lay9 : tiOf Tryz.prog 180 = some ⟨11, true, [SC.i IntKind.u64 0, SC.i IntKind.u64 0, SC.i IntKind.u32 0, SC.i IntKind.u8 0, SC.i IntKind.u8 0, SC.i IntKind.u8 0, SC.i IntKind.u8 0, SC.v Value.nilFunc, SC.v (Value.pointer none), SC.i IntKind.i32 0, SC.i IntKind.i32 0], [(0, 1, false), (1, 1, false), (2, 1, false), (3, 1, false), (4, 1, false), (5, 1, false), (6, 1, false), (7, 1, false), (8, 1, false), (9, 1, false), (10, 1, false)], 0, 1, 4, IntKind.i64⟩ :=
  ti180
theorem lay10 : tiOf Tryz.prog 0 = some ⟨1, false, [SC.v (Value.tuple [].toArray)], [], 0, 1, 0, IntKind.i64⟩ :=
  ti0
theorem lay11 : tiOf Tryz.prog 0 = some ⟨1, false, [SC.v (Value.tuple [].toArray)], [], 0, 1, 0, IntKind.i64⟩ :=
  ti0
theorem lay12 : tiOf Tryz.prog 0 = some ⟨1, false, [SC.v (Value.tuple [].toArray)], [], 0, 1, 0, IntKind.i64⟩ :=
  ti0
theorem lay13 : tiOf Tryz.prog 0 = some ⟨1, false, [SC.v (Value.tuple [].toArray)], [], 0, 1, 0, IntKind.i64⟩ :=
  ti0
theorem lay14 : tiOf Tryz.prog 0 = some ⟨1, false, [SC.v (Value.tuple [].toArray)], [], 0, 1, 0, IntKind.i64⟩ :=
  ti0
theorem lay15 : tiOf Tryz.prog 0 = some ⟨1, false, [SC.v (Value.tuple [].toArray)], [], 0, 1, 0, IntKind.i64⟩ :=
  ti0
theorem lay16 : tiOf Tryz.prog 0 = some ⟨1, false, [SC.v (Value.tuple [].toArray)], [], 0, 1, 0, IntKind.i64⟩ :=
  ti0
theorem lay17 : tiOf Tryz.prog 0 = some ⟨1, false, [SC.v (Value.tuple [].toArray)], [], 0, 1, 0, IntKind.i64⟩ :=
  ti0
theorem lay18 : tiOf Tryz.prog 0 = some ⟨1, false, [SC.v (Value.tuple [].toArray)], [], 0, 1, 0, IntKind.i64⟩ :=
  ti0
theorem lay19 : tiOf Tryz.prog 0 = some ⟨1, false, [SC.v (Value.tuple [].toArray)], [], 0, 1, 0, IntKind.i64⟩ :=
  ti0
set_option linter.defProp false
def lays := And.intro lay0 (And.intro lay1 (And.intro lay2 (And.intro lay3 (And.intro lay4 (And.intro lay5 (And.intro lay6 (And.intro lay7 (And.intro lay8 (And.intro lay9 (And.intro lay10 (And.intro lay11 (And.intro lay12 (And.intro lay13 (And.intro lay14 (And.intro lay15 (And.intro lay16 (And.intro lay17 (And.intro lay18 (lay19)))))))))))))))))))
abbrev kp2 : List Nat := []
abbrev kp3 : List Nat := [0, 2, 3, 4, 5, 6, 7, 8, 9, 10, 11, 15, 24, 41, 46, 57]
abbrev kp4 : List Nat := [0, 1, 2, 3, 4, 6, 7, 8, 46, 52, 61]
abbrev kp5 : List Nat := [0, 1, 4, 5, 6, 7, 8, 9, 10, 11, 15, 19, 37]
abbrev kp6 : List Nat := [0, 1, 2, 3, 4, 5, 12, 13, 14, 15, 17, 19, 21, 22, 23, 38, 113]
abbrev kp7 : List Nat := [0, 1, 2, 4, 5, 6, 8, 10, 12, 14, 15, 16, 33, 55, 56, 57, 58, 59, 60, 61, 62, 63, 64, 65, 66, 67, 68, 69, 70, 71, 72, 73, 74, 75, 76, 77, 78, 79, 80, 81, 82, 83, 84, 85, 86, 87, 88, 89, 90, 91, 92, 93, 94, 95, 96, 97, 98, 99, 100, 101, 102, 103, 104, 105, 106, 107, 108, 109, 110, 111, 112, 113, 114, 115, 116, 117, 118, 119, 120, 121, 122, 123, 124, 125, 126, 127, 128, 129, 130, 131, 132, 133, 134, 135, 136, 137, 138, 139, 140, 141]
abbrev kp8 : List Nat := [0, 1, 4, 5, 6, 7, 8, 9, 10, 11, 12, 13, 18, 34, 44, 78]
abbrev kp9 : List Nat := [0, 1, 2, 6, 7, 8, 9, 10, 11, 12, 13, 14, 15, 16, 27, 30, 40, 123, 126]
abbrev kp10 : List Nat := [0, 1, 2, 3, 4, 6, 27]
abbrev kp11 : List Nat := [0, 2, 3, 4, 5, 6, 7, 8, 9, 10, 19, 26, 31, 32, 36, 39, 54]
abbrev kp12 : List Nat := [0, 2, 3, 4, 5, 6, 7, 9, 10, 11, 12, 22, 31, 41, 49, 61, 67]
abbrev kp13 : List Nat := [0, 1, 2, 3, 4, 5, 6, 12, 13, 14, 15, 16, 17, 18, 19, 20, 21, 22, 23, 24, 25, 26, 27, 28, 29, 30, 31, 32, 33, 34, 35, 36, 37, 38, 39, 40, 41, 42, 43, 44, 45, 46, 47, 48, 49, 50, 51, 52, 53, 54, 55, 56, 57, 58, 59, 60, 61, 62, 63, 64, 65, 66, 67, 68, 69, 70, 71, 72, 73, 74, 75, 76, 77, 78, 79, 80, 81, 82, 83, 84, 85, 90, 103]
abbrev kp14 : List Nat := [0, 1, 2, 3, 4, 6, 7, 8, 14, 15, 19, 22, 23, 27, 31, 44, 45, 48, 49, 66, 70, 73, 74, 78, 84, 86, 93, 100, 107, 114, 117, 129, 144, 157, 166]
abbrev kp15 : List Nat := [0, 1, 2, 3, 4, 6, 7, 10, 13, 15, 16, 18, 20, 22, 30, 60, 107, 121]
abbrev kp16 : List Nat := [0, 2]
abbrev kp17 : List Nat := [0, 2, 4]
abbrev kp18 : List Nat := [0, 2, 4]
abbrev kp19 : List Nat := [0, 2, 3, 4, 5, 6, 8, 9, 10, 22, 34, 44]
abbrev kp20 : List Nat := [0, 2, 3, 4, 6, 7, 8, 18]
abbrev kp21 : List Nat := [0, 2, 3, 4, 5, 6, 7, 8, 19, 25]
abbrev kp22 : List Nat := [0, 2, 3, 4, 5, 9, 21, 24]
abbrev kp23 : List Nat := [0, 2]
abbrev kp24 : List Nat := [0, 1, 4, 5, 6, 7, 8, 9, 10, 11, 12, 13, 14, 15, 16, 31, 42, 55, 75, 88, 91, 108, 114, 116, 125, 134]
abbrev kp25 : List Nat := [0, 2, 3, 4, 6, 14]
abbrev kp26 : List Nat := [0, 1, 4]
abbrev kp27 : List Nat := [0, 2, 3, 4, 6, 7]
abbrev kp28 : List Nat := [0, 2, 3, 5, 6, 9, 12, 15, 18]
abbrev kp29 : List Nat := [0, 1, 4, 5, 6, 7, 8, 9, 10, 11, 12, 13, 14, 15, 16, 17, 25, 40, 43, 57, 74, 82, 85, 94, 97, 104, 109, 119]
abbrev kp30 : List Nat := [0, 1, 4, 5, 10, 14, 25]
abbrev kp31 : List Nat := [0, 2]
abbrev kp32 : List Nat := [0, 1, 2, 7]
abbrev kp33 : List Nat := [0, 1, 2]
abbrev kp34 : List Nat := [0, 1, 2, 4]
abbrev kp35 : List Nat := [0, 1, 2, 4, 7]
abbrev kp36 : List Nat := [0, 1, 2, 3, 6, 8, 9, 10, 13, 14, 15, 16, 19, 22, 29, 40, 48, 51, 64, 78, 88, 108, 109, 110, 116]
abbrev kp37 : List Nat := [0, 1, 2, 4, 6, 9, 10, 11, 12, 17]
abbrev kp38 : List Nat := [0, 1, 2, 3, 4, 6, 8, 9, 12, 13, 15, 22, 26]
abbrev kp39 : List Nat := [0, 1, 2, 4, 7]
abbrev kp40 : List Nat := [0, 2, 4]
abbrev kp41 : List Nat := [0, 1, 2, 3, 4, 6, 7, 8, 22, 46]
abbrev kp42 : List Nat := [0, 1, 2, 3, 4, 5, 8, 9, 10, 11, 16, 24, 31, 36, 44, 55, 68, 82, 97, 114, 121, 128]
abbrev kp43 : List Nat := [0, 1, 4]
abbrev kp44 : List Nat := [0, 1, 4]
abbrev kp45 : List Nat := [0, 2]
abbrev kp46 : List Nat := [0, 2]
abbrev kp47 : List Nat := [0, 2, 3, 4, 8, 14, 23]
abbrev kp48 : List Nat := [0, 2, 3, 4, 5, 6, 14, 18, 30, 40]
abbrev kp49 : List Nat := [0, 2, 3, 4, 6, 8, 10]
abbrev kp50 : List Nat := [0, 1, 2, 6, 7, 8, 9, 10, 11, 12, 18, 30, 33, 42, 52]
abbrev kp51 : List Nat := [0, 1, 2, 4, 5, 10, 28]
abbrev kp52 : List Nat := [0, 2, 3, 4, 5, 6, 7, 8, 9, 10, 11, 12, 16, 20, 24, 52, 60, 85]
abbrev kp53 : List Nat := [0, 2, 3, 7, 19]
abbrev kp54 : List Nat := [0, 1, 4, 5, 6]
abbrev kp55 : List Nat := [0, 1, 4]
abbrev kp56 : List Nat := [0, 1, 2]
abbrev kp57 : List Nat := [0, 2, 3, 4, 5, 8, 15]
abbrev kp58 : List Nat := [0, 1, 2, 6, 7, 8, 9, 11, 12, 13, 14, 15, 18, 24, 29]
abbrev kp59 : List Nat := [0, 2, 3, 4, 5, 6, 7, 8, 9, 23, 25, 26, 27, 34, 43, 57]
abbrev kp60 : List Nat := [0, 1, 4, 5]
abbrev kp61 : List Nat := [0, 2]
abbrev kp62 : List Nat := [0, 1, 4]
abbrev kp63 : List Nat := [0, 1, 4, 5, 6, 8, 10, 12]
abbrev kp64 : List Nat := [0, 6, 19]
abbrev kp65 : List Nat := [0, 2, 3, 4, 6, 8, 10, 12]
abbrev kp66 : List Nat := [0, 1, 4, 5, 9, 16]
abbrev kp67 : List Nat := [0, 1, 2, 6, 7, 8, 9, 10, 21, 22, 29, 39, 46, 53, 65, 70, 80, 90, 97]
abbrev kp68 : List Nat := [0, 2, 3, 4, 14, 25, 36, 39]
abbrev kp69 : List Nat := [0, 2, 3, 4, 5, 6, 7, 11, 24, 34, 58, 62]
abbrev kp70 : List Nat := [0, 1, 4, 5, 6, 7, 12]
abbrev kp71 : List Nat := [0, 1, 4, 7]
abbrev kp72 : List Nat := [0, 1, 3, 4, 9, 20]
abbrev kp73 : List Nat := [0, 1, 4, 5, 6, 12, 21, 31]
abbrev kp74 : List Nat := [0, 1, 4]
abbrev kp75 : List Nat := [0, 1, 2, 6, 7, 8, 9, 18]
abbrev kp76 : List Nat := [0, 1, 4]
abbrev kp77 : List Nat := [0, 1, 2, 6, 7, 8, 22, 38, 48, 58, 75, 80, 93, 103, 121]
abbrev kp78 : List Nat := [0, 1, 4, 5, 6, 12, 21, 31]
abbrev kp79 : List Nat := [0, 1, 4]
abbrev kp80 : List Nat := [0, 1, 4, 5, 9]
abbrev kp81 : List Nat := [0, 1, 4, 5, 7, 8, 10, 12, 13, 15, 22, 29, 39, 40, 41, 42, 49, 63, 64, 65, 66]
abbrev kp82 : List Nat := [0, 1, 4]
abbrev kp83 : List Nat := [0, 2, 4]
abbrev kp84 : List Nat := [0, 2, 3]
abbrev kp85 : List Nat := [0, 1, 4, 5, 6, 7, 8, 9, 10, 11, 12, 13, 14, 15, 16, 20, 99, 139, 161]
abbrev kp86 : List Nat := [0, 1, 2, 3, 4, 10, 11, 12, 13, 14, 15, 16, 17, 18, 28, 30, 34, 46, 68, 89, 94]
abbrev kp88 : List Nat := [0, 2, 3, 4, 5, 20]
abbrev kp89 : List Nat := [0, 1, 4, 7, 12, 23, 24, 30, 36, 42, 48]
abbrev kp90 : List Nat := [0, 2, 3, 9, 16, 23]
abbrev kp91 : List Nat := [0, 1, 4, 5, 6, 7, 8, 9, 10, 11, 12, 13, 16, 24, 31, 36, 59, 64, 73, 93, 107, 114, 132, 139]
abbrev kp92 : List Nat := [0, 1, 4]
abbrev kp93 : List Nat := [0, 1, 4, 13]
abbrev kp94 : List Nat := [0, 2, 3, 4, 5, 9, 16]
abbrev kp95 : List Nat := [0, 1, 4, 7, 12]
abbrev kp96 : List Nat := [0, 1, 4, 5, 6, 9, 18]
abbrev kp97 : List Nat := [0, 1, 4, 5, 6, 12, 21, 34]
abbrev kp98 : List Nat := [0, 1, 2, 6, 7, 8, 9, 10, 11, 12, 13, 15, 16, 17, 19, 25, 32, 37, 40, 52, 64, 77, 83, 85, 90, 92, 99, 100, 101, 102, 106, 112, 121, 137, 141, 159, 169]
abbrev kp99 : List Nat := [0, 1, 2, 3, 4, 10, 11, 12, 19, 26, 34]
abbrev kp100 : List Nat := [0, 1, 4]
abbrev kp101 : List Nat := [0, 1, 4, 5, 6, 9, 14]
abbrev kp102 : List Nat := [0, 2, 3, 4, 5]
abbrev kp103 : List Nat := [0, 1, 4, 16]
abbrev kp104 : List Nat := [0, 1, 4, 7, 15]
abbrev kp105 : List Nat := [0, 1, 4, 5, 6, 9, 17, 26]
abbrev kp106 : List Nat := [0, 1, 4]
abbrev kp107 : List Nat := [0, 1, 7, 21]
abbrev kp108 : List Nat := [0, 1, 4, 5]
abbrev kp109 : List Nat := [0, 2]
abbrev kp110 : List Nat := [0, 2, 4, 8, 14]
abbrev kp111 : List Nat := [0, 2, 3]
abbrev kp112 : List Nat := [0, 2]
abbrev kp113 : List Nat := [0, 2]
abbrev kp114 : List Nat := [0, 2, 3, 4, 5, 6, 15, 41, 42]
abbrev kp116 : List Nat := [0, 2]
abbrev kp117 : List Nat := [0, 1, 4, 5, 6, 7, 8, 9, 10, 20, 39, 44, 77]
abbrev kp118 : List Nat := [0, 1, 4]
abbrev kp119 : List Nat := [0, 2, 3, 10]
abbrev kp120 : List Nat := [0, 1, 4]
abbrev kp121 : List Nat := [0, 2]
abbrev kp122 : List Nat := [0, 2, 3, 4, 5, 18, 46, 54, 83, 87, 89, 91]
abbrev kp123 : List Nat := [0, 1, 4]
abbrev kp124 : List Nat := [0, 1, 4]
abbrev kp125 : List Nat := [0, 1, 2, 6]
abbrev kp126 : List Nat := [0, 1, 2, 6]
abbrev kp127 : List Nat := [0, 2, 3, 4, 5, 9, 16]
abbrev kp128 : List Nat := [0, 2, 3, 4, 5, 6, 10, 18, 27, 33, 35, 48]
abbrev kp130 : List Nat := [0, 1, 4]
abbrev kp131 : List Nat := [0, 2, 4]
abbrev kp132 : List Nat := [0, 2, 4]
abbrev kp133 : List Nat := [0, 2, 3, 4, 5, 6, 7, 8, 12, 25, 30]
abbrev kp134 : List Nat := [0, 2, 3, 4, 5, 6, 7, 8, 9, 10, 11, 12, 16, 23, 45, 57, 59, 75, 77, 98]
abbrev kp135 : List Nat := [0, 1, 4, 5, 6, 7, 8, 9, 10, 11, 12, 13, 14, 15, 16, 26, 33, 43, 51, 64, 98, 108, 124, 139, 143, 156, 160, 171, 175, 176, 177, 181, 183]
abbrev kp136 : List Nat := [0, 2, 3, 6]
abbrev kp137 : List Nat := [0, 2]
abbrev kp138 : List Nat := [0, 2]
abbrev kp139 : List Nat := [0, 1, 4]
abbrev kp140 : List Nat := [0, 1, 2, 6, 7, 8, 17]
abbrev kp141 : List Nat := [0, 2]
abbrev kp143 : List Nat := [0, 2, 3, 10]
abbrev kp144 : List Nat := [0, 2]
abbrev kp145 : List Nat := [0, 1, 4, 7]
abbrev kp146 : List Nat := [0, 1, 2, 6, 7, 8, 9, 10, 11, 13, 16, 17, 21, 38, 41, 52, 62, 69]
abbrev kp147 : List Nat := [0, 1, 4, 5, 6, 7, 9, 11, 17, 23, 34]
abbrev kp177 : List Nat := []
abbrev res2 : List ResultVar := []
theorem hres2 : Tryz.f2.results.toList = res2 := by kernel_rfl
abbrev res3 : List ResultVar := [ResultVar.tmp 2]
theorem hres3 : Tryz.f3.results.toList = res3 := by kernel_rfl
abbrev res4 : List ResultVar := [ResultVar.tmp 6]
theorem hres4 : Tryz.f4.results.toList = res4 := by kernel_rfl
abbrev res5 : List ResultVar := [ResultVar.tmp 4]
theorem hres5 : Tryz.f5.results.toList = res5 := by kernel_rfl
abbrev res6 : List ResultVar := [ResultVar.tmp 12]
theorem hres6 : Tryz.f6.results.toList = res6 := by kernel_rfl
abbrev res7 : List ResultVar := [ResultVar.tmp 4]
theorem hres7 : Tryz.f7.results.toList = res7 := by kernel_rfl
abbrev res8 : List ResultVar := [ResultVar.tmp 4]
theorem hres8 : Tryz.f8.results.toList = res8 := by kernel_rfl
abbrev res9 : List ResultVar := [ResultVar.tmp 6]
theorem hres9 : Tryz.f9.results.toList = res9 := by kernel_rfl
abbrev res10 : List ResultVar := [ResultVar.tmp 0]
theorem hres10 : Tryz.f10.results.toList = res10 := by kernel_rfl
abbrev res11 : List ResultVar := [ResultVar.cell 2 26, ResultVar.tmp 3]
theorem hres11 : Tryz.f11.results.toList = res11 := by kernel_rfl
abbrev res12 : List ResultVar := [ResultVar.cell 2 26, ResultVar.tmp 3]
theorem hres12 : Tryz.f12.results.toList = res12 := by kernel_rfl
abbrev res13 : List ResultVar := [ResultVar.tmp 4]
theorem hres13 : Tryz.f13.results.toList = res13 := by kernel_rfl
abbrev res14 : List ResultVar := [ResultVar.tmp 6]
theorem hres14 : Tryz.f14.results.toList = res14 := by kernel_rfl
abbrev res15 : List ResultVar := [ResultVar.tmp 6]
theorem hres15 : Tryz.f15.results.toList = res15 := by kernel_rfl
abbrev res16 : List ResultVar := [ResultVar.tmp 2]
theorem hres16 : Tryz.f16.results.toList = res16 := by kernel_rfl
abbrev res17 : List ResultVar := [ResultVar.tmp 2]
theorem hres17 : Tryz.f17.results.toList = res17 := by kernel_rfl
abbrev res18 : List ResultVar := [ResultVar.tmp 2]
theorem hres18 : Tryz.f18.results.toList = res18 := by kernel_rfl
abbrev res19 : List ResultVar := [ResultVar.tmp 2]
theorem hres19 : Tryz.f19.results.toList = res19 := by kernel_rfl
abbrev res20 : List ResultVar := [ResultVar.tmp 2]
theorem hres20 : Tryz.f20.results.toList = res20 := by kernel_rfl
abbrev res21 : List ResultVar := [ResultVar.tmp 2, ResultVar.tmp 3, ResultVar.cell 4 26, ResultVar.tmp 5]
theorem hres21 : Tryz.f21.results.toList = res21 := by kernel_rfl
abbrev res22 : List ResultVar := [ResultVar.tmp 2]
theorem hres22 : Tryz.f22.results.toList = res22 := by kernel_rfl
abbrev res23 : List ResultVar := [ResultVar.cell 2 26]
theorem hres23 : Tryz.f23.results.toList = res23 := by kernel_rfl
abbrev res24 : List ResultVar := [ResultVar.cell 4 26, ResultVar.tmp 5]
theorem hres24 : Tryz.f24.results.toList = res24 := by kernel_rfl
abbrev res25 : List ResultVar := [ResultVar.tmp 2, ResultVar.tmp 3]
theorem hres25 : Tryz.f25.results.toList = res25 := by kernel_rfl
abbrev res26 : List ResultVar := [ResultVar.cell 4 26]
theorem hres26 : Tryz.f26.results.toList = res26 := by kernel_rfl
abbrev res27 : List ResultVar := [ResultVar.tmp 2]
theorem hres27 : Tryz.f27.results.toList = res27 := by kernel_rfl
abbrev res28 : List ResultVar := [ResultVar.cell 2 33, ResultVar.tmp 3]
theorem hres28 : Tryz.f28.results.toList = res28 := by kernel_rfl
abbrev res29 : List ResultVar := [ResultVar.cell 4 26, ResultVar.tmp 5, ResultVar.tmp 6]
theorem hres29 : Tryz.f29.results.toList = res29 := by kernel_rfl
abbrev res30 : List ResultVar := [ResultVar.tmp 4]
theorem hres30 : Tryz.f30.results.toList = res30 := by kernel_rfl
abbrev res31 : List ResultVar := [ResultVar.tmp 2]
theorem hres31 : Tryz.f31.results.toList = res31 := by kernel_rfl
abbrev res32 : List ResultVar := [ResultVar.tmp 2]
theorem hres32 : Tryz.f32.results.toList = res32 := by kernel_rfl
abbrev res33 : List ResultVar := [ResultVar.tmp 2]
theorem hres33 : Tryz.f33.results.toList = res33 := by kernel_rfl
abbrev res34 : List ResultVar := [ResultVar.tmp 2]
theorem hres34 : Tryz.f34.results.toList = res34 := by kernel_rfl
abbrev res35 : List ResultVar := [ResultVar.tmp 4]
theorem hres35 : Tryz.f35.results.toList = res35 := by kernel_rfl
abbrev res36 : List ResultVar := [ResultVar.tmp 6]
theorem hres36 : Tryz.f36.results.toList = res36 := by kernel_rfl
abbrev res37 : List ResultVar := [ResultVar.tmp 4]
theorem hres37 : Tryz.f37.results.toList = res37 := by kernel_rfl
abbrev res38 : List ResultVar := [ResultVar.tmp 6]
theorem hres38 : Tryz.f38.results.toList = res38 := by kernel_rfl
abbrev res39 : List ResultVar := [ResultVar.tmp 4]
theorem hres39 : Tryz.f39.results.toList = res39 := by kernel_rfl
abbrev res40 : List ResultVar := [ResultVar.tmp 2]
theorem hres40 : Tryz.f40.results.toList = res40 := by kernel_rfl
abbrev res41 : List ResultVar := [ResultVar.tmp 6]
theorem hres41 : Tryz.f41.results.toList = res41 := by kernel_rfl
abbrev res42 : List ResultVar := [ResultVar.tmp 8]
theorem hres42 : Tryz.f42.results.toList = res42 := by kernel_rfl
abbrev res43 : List ResultVar := [ResultVar.tmp 4]
theorem hres43 : Tryz.f43.results.toList = res43 := by kernel_rfl
abbrev res44 : List ResultVar := [ResultVar.tmp 4]
theorem hres44 : Tryz.f44.results.toList = res44 := by kernel_rfl
abbrev res45 : List ResultVar := [ResultVar.tmp 2]
theorem hres45 : Tryz.f45.results.toList = res45 := by kernel_rfl
abbrev res46 : List ResultVar := [ResultVar.tmp 2]
theorem hres46 : Tryz.f46.results.toList = res46 := by kernel_rfl
abbrev res47 : List ResultVar := [ResultVar.tmp 2, ResultVar.tmp 3]
theorem hres47 : Tryz.f47.results.toList = res47 := by kernel_rfl
abbrev res48 : List ResultVar := [ResultVar.tmp 2, ResultVar.tmp 3]
theorem hres48 : Tryz.f48.results.toList = res48 := by kernel_rfl
abbrev res49 : List ResultVar := [ResultVar.tmp 2]
theorem hres49 : Tryz.f49.results.toList = res49 := by kernel_rfl
abbrev res50 : List ResultVar := [ResultVar.tmp 6]
theorem hres50 : Tryz.f50.results.toList = res50 := by kernel_rfl
abbrev res51 : List ResultVar := [ResultVar.tmp 4]
theorem hres51 : Tryz.f51.results.toList = res51 := by kernel_rfl
abbrev res52 : List ResultVar := [ResultVar.tmp 2, ResultVar.tmp 3]
theorem hres52 : Tryz.f52.results.toList = res52 := by kernel_rfl
abbrev res53 : List ResultVar := [ResultVar.tmp 2]
theorem hres53 : Tryz.f53.results.toList = res53 := by kernel_rfl
abbrev res54 : List ResultVar := [ResultVar.tmp 4, ResultVar.tmp 5, ResultVar.tmp 6]
theorem hres54 : Tryz.f54.results.toList = res54 := by kernel_rfl
abbrev res55 : List ResultVar := [ResultVar.tmp 4]
theorem hres55 : Tryz.f55.results.toList = res55 := by kernel_rfl
abbrev res56 : List ResultVar := [ResultVar.tmp 2]
theorem hres56 : Tryz.f56.results.toList = res56 := by kernel_rfl
abbrev res57 : List ResultVar := [ResultVar.tmp 2, ResultVar.tmp 3]
theorem hres57 : Tryz.f57.results.toList = res57 := by kernel_rfl
abbrev res58 : List ResultVar := [ResultVar.tmp 6, ResultVar.tmp 7, ResultVar.tmp 8]
theorem hres58 : Tryz.f58.results.toList = res58 := by kernel_rfl
abbrev res59 : List ResultVar := [ResultVar.tmp 2, ResultVar.tmp 3]
theorem hres59 : Tryz.f59.results.toList = res59 := by kernel_rfl
abbrev res60 : List ResultVar := [ResultVar.tmp 4, ResultVar.tmp 5]
theorem hres60 : Tryz.f60.results.toList = res60 := by kernel_rfl
abbrev res61 : List ResultVar := [ResultVar.tmp 2]
theorem hres61 : Tryz.f61.results.toList = res61 := by kernel_rfl
abbrev res62 : List ResultVar := [ResultVar.tmp 4]
theorem hres62 : Tryz.f62.results.toList = res62 := by kernel_rfl
abbrev res63 : List ResultVar := [ResultVar.tmp 4]
theorem hres63 : Tryz.f63.results.toList = res63 := by kernel_rfl
abbrev res64 : List ResultVar := []
theorem hres64 : Tryz.f64.results.toList = res64 := by kernel_rfl
abbrev res65 : List ResultVar := [ResultVar.tmp 2]
theorem hres65 : Tryz.f65.results.toList = res65 := by kernel_rfl
abbrev res66 : List ResultVar := [ResultVar.tmp 4]
theorem hres66 : Tryz.f66.results.toList = res66 := by kernel_rfl
abbrev res67 : List ResultVar := [ResultVar.tmp 6]
theorem hres67 : Tryz.f67.results.toList = res67 := by kernel_rfl
abbrev res68 : List ResultVar := [ResultVar.tmp 2, ResultVar.tmp 3]
theorem hres68 : Tryz.f68.results.toList = res68 := by kernel_rfl
abbrev res69 : List ResultVar := [ResultVar.tmp 2]
theorem hres69 : Tryz.f69.results.toList = res69 := by kernel_rfl
abbrev res70 : List ResultVar := [ResultVar.tmp 4, ResultVar.tmp 5, ResultVar.tmp 6]
theorem hres70 : Tryz.f70.results.toList = res70 := by kernel_rfl
abbrev res71 : List ResultVar := [ResultVar.tmp 4]
theorem hres71 : Tryz.f71.results.toList = res71 := by kernel_rfl
abbrev res72 : List ResultVar := []
theorem hres72 : Tryz.f72.results.toList = res72 := by kernel_rfl
abbrev res73 : List ResultVar := [ResultVar.tmp 4]
theorem hres73 : Tryz.f73.results.toList = res73 := by kernel_rfl
abbrev res74 : List ResultVar := [ResultVar.tmp 4]
theorem hres74 : Tryz.f74.results.toList = res74 := by kernel_rfl
abbrev res75 : List ResultVar := [ResultVar.tmp 6, ResultVar.tmp 7]
theorem hres75 : Tryz.f75.results.toList = res75 := by kernel_rfl
abbrev res76 : List ResultVar := [ResultVar.tmp 4]
theorem hres76 : Tryz.f76.results.toList = res76 := by kernel_rfl
abbrev res77 : List ResultVar := [ResultVar.tmp 6]
theorem hres77 : Tryz.f77.results.toList = res77 := by kernel_rfl
abbrev res78 : List ResultVar := [ResultVar.tmp 4]
theorem hres78 : Tryz.f78.results.toList = res78 := by kernel_rfl
abbrev res79 : List ResultVar := [ResultVar.tmp 4]
theorem hres79 : Tryz.f79.results.toList = res79 := by kernel_rfl
abbrev res80 : List ResultVar := [ResultVar.tmp 4, ResultVar.tmp 5]
theorem hres80 : Tryz.f80.results.toList = res80 := by kernel_rfl
abbrev res81 : List ResultVar := [ResultVar.tmp 4]
theorem hres81 : Tryz.f81.results.toList = res81 := by kernel_rfl
abbrev res82 : List ResultVar := [ResultVar.tmp 4]
theorem hres82 : Tryz.f82.results.toList = res82 := by kernel_rfl
abbrev res83 : List ResultVar := [ResultVar.tmp 2]
theorem hres83 : Tryz.f83.results.toList = res83 := by kernel_rfl
abbrev res84 : List ResultVar := [ResultVar.tmp 2]
theorem hres84 : Tryz.f84.results.toList = res84 := by kernel_rfl
abbrev res85 : List ResultVar := []
theorem hres85 : Tryz.f85.results.toList = res85 := by kernel_rfl
abbrev res86 : List ResultVar := [ResultVar.tmp 10, ResultVar.tmp 11]
theorem hres86 : Tryz.f86.results.toList = res86 := by kernel_rfl
abbrev res88 : List ResultVar := [ResultVar.tmp 2, ResultVar.tmp 3]
theorem hres88 : Tryz.f88.results.toList = res88 := by kernel_rfl
abbrev res89 : List ResultVar := [ResultVar.tmp 4]
theorem hres89 : Tryz.f89.results.toList = res89 := by kernel_rfl
abbrev res90 : List ResultVar := [ResultVar.tmp 2]
theorem hres90 : Tryz.f90.results.toList = res90 := by kernel_rfl
abbrev res91 : List ResultVar := [ResultVar.tmp 4]
theorem hres91 : Tryz.f91.results.toList = res91 := by kernel_rfl
abbrev res92 : List ResultVar := [ResultVar.tmp 4]
theorem hres92 : Tryz.f92.results.toList = res92 := by kernel_rfl
abbrev res93 : List ResultVar := [ResultVar.tmp 4]
theorem hres93 : Tryz.f93.results.toList = res93 := by kernel_rfl
abbrev res94 : List ResultVar := [ResultVar.cell 2 124, ResultVar.tmp 3]
theorem hres94 : Tryz.f94.results.toList = res94 := by kernel_rfl
abbrev res95 : List ResultVar := [ResultVar.tmp 4]
theorem hres95 : Tryz.f95.results.toList = res95 := by kernel_rfl
abbrev res96 : List ResultVar := [ResultVar.tmp 4]
theorem hres96 : Tryz.f96.results.toList = res96 := by kernel_rfl
abbrev res97 : List ResultVar := [ResultVar.tmp 4]
theorem hres97 : Tryz.f97.results.toList = res97 := by kernel_rfl
abbrev res98 : List ResultVar := [ResultVar.tmp 6, ResultVar.tmp 7]
theorem hres98 : Tryz.f98.results.toList = res98 := by kernel_rfl
abbrev res99 : List ResultVar := [ResultVar.tmp 10]
theorem hres99 : Tryz.f99.results.toList = res99 := by kernel_rfl
abbrev res100 : List ResultVar := [ResultVar.tmp 4]
theorem hres100 : Tryz.f100.results.toList = res100 := by kernel_rfl
abbrev res101 : List ResultVar := [ResultVar.tmp 4]
theorem hres101 : Tryz.f101.results.toList = res101 := by kernel_rfl
abbrev res102 : List ResultVar := [ResultVar.tmp 2, ResultVar.tmp 3]
theorem hres102 : Tryz.f102.results.toList = res102 := by kernel_rfl
abbrev res103 : List ResultVar := [ResultVar.tmp 4]
theorem hres103 : Tryz.f103.results.toList = res103 := by kernel_rfl
abbrev res104 : List ResultVar := [ResultVar.tmp 4]
theorem hres104 : Tryz.f104.results.toList = res104 := by kernel_rfl
abbrev res105 : List ResultVar := [ResultVar.tmp 4]
theorem hres105 : Tryz.f105.results.toList = res105 := by kernel_rfl
abbrev res106 : List ResultVar := [ResultVar.tmp 4]
theorem hres106 : Tryz.f106.results.toList = res106 := by kernel_rfl
abbrev res107 : List ResultVar := []
theorem hres107 : Tryz.f107.results.toList = res107 := by kernel_rfl
abbrev res108 : List ResultVar := [ResultVar.tmp 4, ResultVar.tmp 5]
theorem hres108 : Tryz.f108.results.toList = res108 := by kernel_rfl
abbrev res109 : List ResultVar := [ResultVar.tmp 2]
theorem hres109 : Tryz.f109.results.toList = res109 := by kernel_rfl
abbrev res110 : List ResultVar := [ResultVar.tmp 2]
theorem hres110 : Tryz.f110.results.toList = res110 := by kernel_rfl
abbrev res111 : List ResultVar := [ResultVar.tmp 2]
theorem hres111 : Tryz.f111.results.toList = res111 := by kernel_rfl
abbrev res112 : List ResultVar := [ResultVar.tmp 2]
theorem hres112 : Tryz.f112.results.toList = res112 := by kernel_rfl
abbrev res113 : List ResultVar := [ResultVar.tmp 2]
theorem hres113 : Tryz.f113.results.toList = res113 := by kernel_rfl
abbrev res114 : List ResultVar := [ResultVar.tmp 2, ResultVar.tmp 3]
theorem hres114 : Tryz.f114.results.toList = res114 := by kernel_rfl
abbrev res116 : List ResultVar := [ResultVar.tmp 2]
theorem hres116 : Tryz.f116.results.toList = res116 := by kernel_rfl
abbrev res117 : List ResultVar := [ResultVar.tmp 4]
theorem hres117 : Tryz.f117.results.toList = res117 := by kernel_rfl
abbrev res118 : List ResultVar := [ResultVar.tmp 4]
theorem hres118 : Tryz.f118.results.toList = res118 := by kernel_rfl
abbrev res119 : List ResultVar := [ResultVar.tmp 2, ResultVar.tmp 3]
theorem hres119 : Tryz.f119.results.toList = res119 := by kernel_rfl
abbrev res120 : List ResultVar := [ResultVar.tmp 4]
theorem hres120 : Tryz.f120.results.toList = res120 := by kernel_rfl
abbrev res121 : List ResultVar := [ResultVar.tmp 2]
theorem hres121 : Tryz.f121.results.toList = res121 := by kernel_rfl
abbrev res122 : List ResultVar := [ResultVar.tmp 2]
theorem hres122 : Tryz.f122.results.toList = res122 := by kernel_rfl
abbrev res123 : List ResultVar := [ResultVar.tmp 4]
theorem hres123 : Tryz.f123.results.toList = res123 := by kernel_rfl
abbrev res124 : List ResultVar := [ResultVar.tmp 4]
theorem hres124 : Tryz.f124.results.toList = res124 := by kernel_rfl
abbrev res125 : List ResultVar := [ResultVar.tmp 6]
theorem hres125 : Tryz.f125.results.toList = res125 := by kernel_rfl
abbrev res126 : List ResultVar := [ResultVar.tmp 6]
theorem hres126 : Tryz.f126.results.toList = res126 := by kernel_rfl
abbrev res127 : List ResultVar := [ResultVar.tmp 2, ResultVar.tmp 3]
theorem hres127 : Tryz.f127.results.toList = res127 := by kernel_rfl
abbrev res128 : List ResultVar := [ResultVar.tmp 2, ResultVar.tmp 3]
theorem hres128 : Tryz.f128.results.toList = res128 := by kernel_rfl
abbrev res130 : List ResultVar := []
theorem hres130 : Tryz.f130.results.toList = res130 := by kernel_rfl
abbrev res131 : List ResultVar := [ResultVar.tmp 2]
theorem hres131 : Tryz.f131.results.toList = res131 := by kernel_rfl
abbrev res132 : List ResultVar := [ResultVar.tmp 2]
theorem hres132 : Tryz.f132.results.toList = res132 := by kernel_rfl
abbrev res133 : List ResultVar := [ResultVar.tmp 2, ResultVar.tmp 3]
theorem hres133 : Tryz.f133.results.toList = res133 := by kernel_rfl
abbrev res134 : List ResultVar := [ResultVar.tmp 2, ResultVar.tmp 3]
theorem hres134 : Tryz.f134.results.toList = res134 := by kernel_rfl
abbrev res135 : List ResultVar := [ResultVar.tmp 4]
theorem hres135 : Tryz.f135.results.toList = res135 := by kernel_rfl
abbrev res136 : List ResultVar := [ResultVar.tmp 2]
theorem hres136 : Tryz.f136.results.toList = res136 := by kernel_rfl
abbrev res137 : List ResultVar := [ResultVar.tmp 2]
theorem hres137 : Tryz.f137.results.toList = res137 := by kernel_rfl
abbrev res138 : List ResultVar := [ResultVar.tmp 2]
theorem hres138 : Tryz.f138.results.toList = res138 := by kernel_rfl
abbrev res139 : List ResultVar := [ResultVar.tmp 4]
theorem hres139 : Tryz.f139.results.toList = res139 := by kernel_rfl
abbrev res140 : List ResultVar := [ResultVar.tmp 6, ResultVar.tmp 7]
theorem hres140 : Tryz.f140.results.toList = res140 := by kernel_rfl
abbrev res141 : List ResultVar := [ResultVar.tmp 2]
theorem hres141 : Tryz.f141.results.toList = res141 := by kernel_rfl
abbrev res143 : List ResultVar := [ResultVar.tmp 2]
theorem hres143 : Tryz.f143.results.toList = res143 := by kernel_rfl
abbrev res144 : List ResultVar := [ResultVar.tmp 2]
theorem hres144 : Tryz.f144.results.toList = res144 := by kernel_rfl
abbrev res145 : List ResultVar := [ResultVar.tmp 4]
theorem hres145 : Tryz.f145.results.toList = res145 := by kernel_rfl
abbrev res146 : List ResultVar := [ResultVar.tmp 6, ResultVar.tmp 7]
theorem hres146 : Tryz.f146.results.toList = res146 := by kernel_rfl
abbrev res147 : List ResultVar := [ResultVar.tmp 4]
theorem hres147 : Tryz.f147.results.toList = res147 := by kernel_rfl
abbrev res177 : List ResultVar := []
theorem hres177 : Tryz.f177.results.toList = res177 := by kernel_rfl
abbrev rs4_9 : List (Nat × Nat) := [(0, 0), (0, 0), (0, 0), (0, 0), (0, 0), (0, 0), (0, 1), (0, 1), (0, 1), (1, 1), (1, 1), (1, 1), (1, 1)]
abbrev rs6_13 : List (Nat × Nat) := [(0, 0), (0, 0), (0, 0), (0, 0), (0, 0), (0, 0), (0, 0), (0, 0), (0, 0), (0, 0), (0, 0), (0, 0), (0, 0), (0, 0), (0, 0), (0, 0), (0, 0), (0, 0), (0, 0), (0, 0), (0, 0), (0, 0), (0, 0), (0, 0), (0, 0), (0, 0), (0, 0), (0, 0), (0, 0), (0, 0), (0, 0), (0, 0), (0, 0), (0, 0), (0, 0)]
abbrev rs9_15 : List (Nat × Nat) := [(0, 0), (0, 0), (0, 0), (0, 0), (0, 0), (0, 0), (0, 0), (0, 0), (0, 0), (0, 0), (0, 0), (0, 0), (0, 0), (0, 0), (0, 0), (0, 0), (0, 0), (0, 0), (0, 0), (0, 0), (0, 0), (0, 0), (0, 0), (0, 0), (0, 0), (0, 0), (0, 0), (0, 0), (0, 0), (0, 0), (0, 0), (0, 0), (0, 0), (0, 0), (0, 0), (0, 0), (0, 0), (0, 0), (0, 0), (0, 0), (0, 0), (0, 0), (0, 0), (0, 0), (0, 0), (0, 0), (0, 0), (0, 0), (0, 0), (0, 0)]
abbrev rs13_7 : List (Nat × Nat) := [(0, 0), (0, 0), (0, 0), (0, 0), (0, 0), (0, 0), (0, 0), (0, 0), (0, 0), (0, 0), (0, 0)]
abbrev rs14_19 : List (Nat × Nat) := [(0, 0), (0, 0), (0, 0), (0, 0), (0, 0), (0, 0), (0, 0), (0, 0), (0, 0), (0, 0), (0, 0), (0, 0), (0, 0), (0, 0), (0, 0), (1, 1)]
abbrev rs14_27 : List (Nat × Nat) := [(0, 1), (0, 0), (0, 0), (1, 1), (1, 1)]
abbrev rs14_30 : List (Nat × Nat) := [(0, 1), (0, 0), (0, 0), (0, 0), (1, 1), (1, 1)]
abbrev rs14_40 : List (Nat × Nat) := [(0, 1), (0, 0), (0, 0), (0, 0), (1, 1), (1, 1)]
abbrev rs14_44 : List (Nat × Nat) := [(0, 0), (0, 0), (0, 0), (0, 0), (0, 0)]
abbrev rs14_46 : List (Nat × Nat) := [(0, 1), (0, 0), (0, 0), (0, 0), (1, 1), (1, 1)]
abbrev rs15_16 : List (Nat × Nat) := [(0, 0), (0, 0), (0, 0), (0, 0), (0, 0), (0, 0), (0, 0), (0, 0), (0, 0), (0, 0), (0, 0), (0, 0), (0, 0), (0, 0), (0, 0), (0, 0), (0, 0), (0, 0), (0, 0), (0, 0), (0, 0), (0, 0)]
abbrev rs21_8 : List (Nat × Nat) := [(0, 0), (0, 0), (0, 0), (0, 0), (1, 1)]
abbrev rs24_4 : List (Nat × Nat) := [(0, 0), (0, 0), (0, 0), (0, 0), (0, 0), (0, 0), (0, 0), (0, 0), (0, 0), (0, 0), (0, 0)]
abbrev rs24_18 : List (Nat × Nat) := [(0, 0), (0, 0), (0, 0), (0, 0), (0, 0), (0, 0), (0, 0)]
abbrev rs29_1 : List (Nat × Nat) := [(0, 0), (0, 0), (0, 0), (0, 0), (0, 0), (0, 0), (0, 0)]
abbrev rs29_14 : List (Nat × Nat) := [(0, 0), (0, 0), (0, 0), (0, 0), (0, 0), (0, 0), (0, 0)]
abbrev rs30_6 : List (Nat × Nat) := [(0, 0), (0, 0), (0, 0), (0, 0), (0, 0), (0, 0), (0, 0), (0, 0), (0, 0)]
abbrev rs34_2 : List (Nat × Nat) := [(0, 0), (0, 0), (0, 0), (0, 0), (0, 0), (0, 1), (0, 1), (0, 1), (0, 1), (1, 1), (1, 1), (1, 1)]
abbrev rs41_4 : List (Nat × Nat) := [(0, 0), (0, 0), (0, 0), (0, 0), (0, 0), (0, 0), (0, 0), (0, 0), (0, 0), (0, 0), (0, 0), (0, 0), (0, 0), (0, 0), (0, 0), (0, 0), (0, 0), (0, 0)]
abbrev rs46_1 : List (Nat × Nat) := [(0, 0), (0, 0), (0, 0), (0, 0), (0, 0), (0, 0), (0, 0), (0, 0), (0, 0), (0, 0), (0, 0), (0, 0)]
abbrev rs58_9 : List (Nat × Nat) := [(0, 0), (0, 0), (0, 0), (0, 0), (0, 0), (0, 0), (1, 1), (1, 1)]
abbrev rs70_3 : List (Nat × Nat) := [(0, 0), (0, 0), (0, 0), (0, 0), (0, 0), (0, 0), (0, 0), (0, 0), (0, 0), (0, 0), (0, 0), (0, 0)]
abbrev rs85_7 : List (Nat × Nat) := [(0, 0), (0, 0), (0, 0), (0, 1), (0, 1), (0, 1), (0, 0), (0, 0), (0, 0), (0, 1), (0, 1), (0, 0), (0, 0), (1, 1), (1, 1)]
abbrev rs85_8 : List (Nat × Nat) := [(0, 0), (0, 0), (0, 0), (0, 1), (0, 1), (0, 1), (0, 0), (0, 0), (0, 0), (0, 1), (0, 1), (0, 0), (0, 0), (1, 1), (1, 1)]
abbrev rs85_9 : List (Nat × Nat) := [(0, 0), (0, 0), (0, 0), (0, 1), (0, 1), (0, 1), (0, 0), (0, 0), (0, 0), (0, 1), (0, 1), (0, 0), (0, 0), (1, 1), (1, 1)]
abbrev rs85_10 : List (Nat × Nat) := [(0, 0), (0, 0), (0, 0), (0, 1), (0, 1), (0, 1), (0, 0), (0, 0), (0, 0), (0, 1), (0, 1), (0, 0), (0, 0), (1, 1), (1, 1)]
abbrev rs85_17 : List (Nat × Nat) := [(0, 0), (0, 0), (0, 0), (0, 1), (0, 1), (0, 1), (0, 0), (0, 0), (0, 0), (0, 1), (0, 1), (0, 0), (0, 0), (1, 1), (1, 1)]
abbrev rs85_18 : List (Nat × Nat) := [(0, 0), (0, 0), (0, 0), (0, 1), (0, 1), (0, 1), (0, 0), (0, 0), (0, 0), (0, 1), (0, 1), (0, 0), (0, 0), (1, 1), (1, 1)]
abbrev rs85_23 : List (Nat × Nat) := [(0, 0), (0, 0), (0, 0), (0, 1), (0, 1), (0, 1), (0, 0), (0, 0), (0, 0), (0, 1), (0, 1), (0, 0), (0, 0), (1, 1), (1, 1)]
abbrev rs97_4 : List (Nat × Nat) := [(0, 0), (0, 0), (0, 0), (0, 0), (0, 0), (0, 0), (0, 0), (0, 0)]
abbrev rs107_3 : List (Nat × Nat) := [(0, 0), (0, 0), (0, 0), (0, 0), (0, 0), (0, 0), (0, 0), (0, 0), (0, 0), (0, 0), (0, 0), (0, 0), (0, 0)]
abbrev rs123_1 : List (Nat × Nat) := [(0, 0), (0, 0), (0, 0), (0, 0), (0, 0), (0, 0), (0, 0)]
abbrev rs124_1 : List (Nat × Nat) := [(0, 0), (0, 0), (0, 0), (0, 0), (0, 0), (0, 0), (0, 0)]
abbrev rs130_0 : List (Nat × Nat) := [(0, 0), (0, 0), (0, 0), (0, 0), (0, 0), (0, 0), (0, 0), (0, 0), (0, 0), (0, 0), (0, 0), (0, 0), (0, 0), (0, 0), (0, 0), (0, 0)]
abbrev rs135_6 : List (Nat × Nat) := [(0, 0), (0, 0), (0, 0), (0, 0), (0, 0), (0, 0), (0, 0)]
abbrev rs135_7 : List (Nat × Nat) := [(0, 0), (0, 0), (0, 0), (0, 0), (0, 0), (0, 0), (0, 0), (0, 0), (0, 0)]
abbrev rs135_14 : List (Nat × Nat) := [(0, 0), (0, 0), (0, 0), (0, 0), (0, 0), (0, 0), (0, 0), (0, 0), (0, 0), (0, 0), (0, 0)]
abbrev rs135_31 : List (Nat × Nat) := [(0, 0), (0, 0), (0, 0), (0, 0), (0, 0), (0, 0), (0, 0), (0, 0), (0, 0), (0, 0), (0, 0)]
end Go.Proofs.YtlaagebdbcmckaaGreatDoor
