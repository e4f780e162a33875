/- The program's tables as instances. Printed by a program of ours (wip/tools/gen_ty.py). -/
import Derived.Test.YtdmabodhmkgimaaChecked
import Derived.Test.YtdmabodhmkgimaaC19
namespace Go.Proofs.Ytdmabodhmkgimaa
open Go Go.Sym
instance Ty2 : Ty Try.prog 2 false 1 8 (.int .i64 0) := ⟨by kernel_rfl, by kernel_rfl⟩
instance IntTy2 : IntTy Try.prog 2 .i64 := ⟨by kernel_rfl⟩
instance Ty3 : Ty Try.prog 3 false 1 8 (.int .i64 0) := ⟨by kernel_rfl, by kernel_rfl⟩
instance IntTy3 : IntTy Try.prog 3 .i64 := ⟨by kernel_rfl⟩
instance Ty4 : Ty Try.prog 4 false 1 1 (.bool false) := ⟨by kernel_rfl, by kernel_rfl⟩
instance BoolTy4 : BoolTy Try.prog 4 := ⟨by kernel_rfl⟩
instance Ty5 : Ty Try.prog 5 false 1 1 (.int .u8 0) := ⟨by kernel_rfl, by kernel_rfl⟩
instance IntTy5 : IntTy Try.prog 5 .u8 := ⟨by kernel_rfl⟩
instance Ty6 : Ty Try.prog 6 false 1 1 (.int .u8 0) := ⟨by kernel_rfl, by kernel_rfl⟩
instance IntTy6 : IntTy Try.prog 6 .u8 := ⟨by kernel_rfl⟩
instance Ty7 : Ty Try.prog 7 true 4 24 (.agg #[.int .i64 0, .int .i64 0, .bool false, .int .u8 0]) := ⟨by kernel_rfl, by kernel_rfl⟩
instance StructTy7 : StructTy Try.prog 7 [2, 3, 4, 6] := ⟨by kernel_rfl, by kernel_rfl⟩
instance BuildTy7 : BuildTy Try.prog 7 [(0, 1), (1, 1), (2, 1), (3, 1)] := ⟨by kernel_rfl, fun _ => by kernel_rfl⟩
instance FieldTy7_0 : FieldTy Try.prog 7 0 0 := ⟨fun _ _ => by kernel_rfl⟩
instance FieldTy7_1 : FieldTy Try.prog 7 1 1 := ⟨fun _ _ => by kernel_rfl⟩
instance FieldTy7_2 : FieldTy Try.prog 7 2 2 := ⟨fun _ _ => by kernel_rfl⟩
instance FieldTy7_3 : FieldTy Try.prog 7 3 3 := ⟨fun _ _ => by kernel_rfl⟩
instance Ty8 : Ty Try.prog 8 true 4 24 (.agg #[.int .i64 0, .int .i64 0, .bool false, .int .u8 0]) := ⟨by kernel_rfl, by kernel_rfl⟩
instance StructTy8 : StructTy Try.prog 8 [2, 3, 4, 6] := ⟨by kernel_rfl, by kernel_rfl⟩
instance BuildTy8 : BuildTy Try.prog 8 [(0, 1), (1, 1), (2, 1), (3, 1)] := ⟨by kernel_rfl, fun _ => by kernel_rfl⟩
instance FieldTy8_0 : FieldTy Try.prog 8 0 0 := ⟨fun _ _ => by kernel_rfl⟩
instance FieldTy8_1 : FieldTy Try.prog 8 1 1 := ⟨fun _ _ => by kernel_rfl⟩
instance FieldTy8_2 : FieldTy Try.prog 8 2 2 := ⟨fun _ _ => by kernel_rfl⟩
instance FieldTy8_3 : FieldTy Try.prog 8 3 3 := ⟨fun _ _ => by kernel_rfl⟩
instance Ty9 : Ty Try.prog 9 false 1 16 (.string ByteArray.empty) := ⟨by kernel_rfl, by kernel_rfl⟩
instance StrTy9 : StrTy Try.prog 9 := ⟨by kernel_rfl⟩
instance Ty10 : Ty Try.prog 10 false 1 16 (.string ByteArray.empty) := ⟨by kernel_rfl, by kernel_rfl⟩
instance StrTy10 : StrTy Try.prog 10 := ⟨by kernel_rfl⟩
instance Ty11 : Ty Try.prog 11 false 1 16 (.string ByteArray.empty) := ⟨by kernel_rfl, by kernel_rfl⟩
instance StrTy11 : StrTy Try.prog 11 := ⟨by kernel_rfl⟩
instance Ty12 : Ty Try.prog 12 false 1 8 (.int .u64 0) := ⟨by kernel_rfl, by kernel_rfl⟩
instance IntTy12 : IntTy Try.prog 12 .u64 := ⟨by kernel_rfl⟩
instance Ty13 : Ty Try.prog 13 true 2 24 (.agg #[.string ByteArray.empty, .int .u64 0]) := ⟨by kernel_rfl, by kernel_rfl⟩
instance StructTy13 : StructTy Try.prog 13 [9, 12] := ⟨by kernel_rfl, by kernel_rfl⟩
instance BuildTy13 : BuildTy Try.prog 13 [(0, 1), (1, 1)] := ⟨by kernel_rfl, fun _ => by kernel_rfl⟩
instance FieldTy13_0 : FieldTy Try.prog 13 0 0 := ⟨fun _ _ => by kernel_rfl⟩
instance FieldTy13_1 : FieldTy Try.prog 13 1 1 := ⟨fun _ _ => by kernel_rfl⟩
instance Ty14 : Ty Try.prog 14 true 2 24 (.agg #[.string ByteArray.empty, .int .u64 0]) := ⟨by kernel_rfl, by kernel_rfl⟩
instance StructTy14 : StructTy Try.prog 14 [9, 12] := ⟨by kernel_rfl, by kernel_rfl⟩
instance BuildTy14 : BuildTy Try.prog 14 [(0, 1), (1, 1)] := ⟨by kernel_rfl, fun _ => by kernel_rfl⟩
instance FieldTy14_0 : FieldTy Try.prog 14 0 0 := ⟨fun _ _ => by kernel_rfl⟩
instance FieldTy14_1 : FieldTy Try.prog 14 1 1 := ⟨fun _ _ => by kernel_rfl⟩
instance Ty15 : Ty Try.prog 15 false 1 8 (.pointer none) := ⟨by kernel_rfl, by kernel_rfl⟩
instance Ty16 : Ty Try.prog 16 false 1 8 (.pointer none) := ⟨by kernel_rfl, by kernel_rfl⟩
instance Ty17 : Ty Try.prog 17 false 1 8 (.pointer none) := ⟨by kernel_rfl, by kernel_rfl⟩
instance Ty18 : Ty Try.prog 18 true 1 8 (.agg #[.pointer none]) := ⟨by kernel_rfl, by kernel_rfl⟩
instance StructTy18 : StructTy Try.prog 18 [17] := ⟨by kernel_rfl, by kernel_rfl⟩
instance BuildTy18 : BuildTy Try.prog 18 [(0, 1)] := ⟨by kernel_rfl, fun _ => by kernel_rfl⟩
instance FieldTy18_0 : FieldTy Try.prog 18 0 0 := ⟨fun _ _ => by kernel_rfl⟩
instance Ty19 : Ty Try.prog 19 true 1 8 (.agg #[.pointer none]) := ⟨by kernel_rfl, by kernel_rfl⟩
instance StructTy19 : StructTy Try.prog 19 [17] := ⟨by kernel_rfl, by kernel_rfl⟩
instance BuildTy19 : BuildTy Try.prog 19 [(0, 1)] := ⟨by kernel_rfl, fun _ => by kernel_rfl⟩
instance FieldTy19_0 : FieldTy Try.prog 19 0 0 := ⟨fun _ _ => by kernel_rfl⟩
instance Ty21 : Ty Try.prog 21 false 1 4 (.int .i32 0) := ⟨by kernel_rfl, by kernel_rfl⟩
instance IntTy21 : IntTy Try.prog 21 .i32 := ⟨by kernel_rfl⟩
instance Ty22 : Ty Try.prog 22 false 1 24 (.slice none 0 0) := ⟨by kernel_rfl, by kernel_rfl⟩
instance SliceTy22 : SliceTy Try.prog 22 38 := ⟨by kernel_rfl⟩
instance Ty23 : Ty Try.prog 23 true 2 32 (.agg #[.int .i64 0, .slice none 0 0]) := ⟨by kernel_rfl, by kernel_rfl⟩
instance StructTy23 : StructTy Try.prog 23 [3, 22] := ⟨by kernel_rfl, by kernel_rfl⟩
instance BuildTy23 : BuildTy Try.prog 23 [(0, 1), (1, 1)] := ⟨by kernel_rfl, fun _ => by kernel_rfl⟩
instance FieldTy23_0 : FieldTy Try.prog 23 0 0 := ⟨fun _ _ => by kernel_rfl⟩
instance FieldTy23_1 : FieldTy Try.prog 23 1 1 := ⟨fun _ _ => by kernel_rfl⟩
instance Ty24 : Ty Try.prog 24 true 2 32 (.agg #[.int .i64 0, .slice none 0 0]) := ⟨by kernel_rfl, by kernel_rfl⟩
instance StructTy24 : StructTy Try.prog 24 [3, 22] := ⟨by kernel_rfl, by kernel_rfl⟩
instance BuildTy24 : BuildTy Try.prog 24 [(0, 1), (1, 1)] := ⟨by kernel_rfl, fun _ => by kernel_rfl⟩
instance FieldTy24_0 : FieldTy Try.prog 24 0 0 := ⟨fun _ _ => by kernel_rfl⟩
instance FieldTy24_1 : FieldTy Try.prog 24 1 1 := ⟨fun _ _ => by kernel_rfl⟩
instance Ty26 : Ty Try.prog 26 false 1 8 (.int .i64 0) := ⟨by kernel_rfl, by kernel_rfl⟩
instance IntTy26 : IntTy Try.prog 26 .i64 := ⟨by kernel_rfl⟩
instance Ty32 : Ty Try.prog 32 true 2 32 (.agg #[.string ByteArray.empty, .string ByteArray.empty]) := ⟨by kernel_rfl, by kernel_rfl⟩
instance StructTy32 : StructTy Try.prog 32 [9, 9] := ⟨by kernel_rfl, by kernel_rfl⟩
instance BuildTy32 : BuildTy Try.prog 32 [(0, 1), (1, 1)] := ⟨by kernel_rfl, fun _ => by kernel_rfl⟩
instance FieldTy32_0 : FieldTy Try.prog 32 0 0 := ⟨fun _ _ => by kernel_rfl⟩
instance FieldTy32_1 : FieldTy Try.prog 32 1 1 := ⟨fun _ _ => by kernel_rfl⟩
instance Ty33 : Ty Try.prog 33 true 2 32 (.agg #[.string ByteArray.empty, .string ByteArray.empty]) := ⟨by kernel_rfl, by kernel_rfl⟩
instance StructTy33 : StructTy Try.prog 33 [9, 9] := ⟨by kernel_rfl, by kernel_rfl⟩
instance BuildTy33 : BuildTy Try.prog 33 [(0, 1), (1, 1)] := ⟨by kernel_rfl, fun _ => by kernel_rfl⟩
instance EqTy33 : EqTy Try.prog 33 [(9, 0), (9, 1)] := ⟨by kernel_rfl, by kernel_rfl, by kernel_rfl, by kernel_rfl⟩
instance FieldTy33_0 : FieldTy Try.prog 33 0 0 := ⟨fun _ _ => by kernel_rfl⟩
instance FieldTy33_1 : FieldTy Try.prog 33 1 1 := ⟨fun _ _ => by kernel_rfl⟩
instance Ty34 : Ty Try.prog 34 true 6 72 (.agg #[.string ByteArray.empty, .string ByteArray.empty, .int .i64 0, .string ByteArray.empty, .int .i64 0, .int .i64 0]) := ⟨by kernel_rfl, by kernel_rfl⟩
instance StructTy34 : StructTy Try.prog 34 [33, 3, 9, 3, 3] := ⟨by kernel_rfl, by kernel_rfl⟩
instance BuildTy34 : BuildTy Try.prog 34 [(0, 2), (2, 1), (3, 1), (4, 1), (5, 1)] := ⟨by kernel_rfl, fun _ => by kernel_rfl⟩
instance FieldTy34_0 : FieldTy Try.prog 34 0 0 := ⟨fun _ _ => by kernel_rfl⟩
instance FieldTy34_1 : FieldTy Try.prog 34 1 2 := ⟨fun _ _ => by kernel_rfl⟩
instance FieldTy34_2 : FieldTy Try.prog 34 2 3 := ⟨fun _ _ => by kernel_rfl⟩
instance FieldTy34_3 : FieldTy Try.prog 34 3 4 := ⟨fun _ _ => by kernel_rfl⟩
instance FieldTy34_4 : FieldTy Try.prog 34 4 5 := ⟨fun _ _ => by kernel_rfl⟩
instance Ty35 : Ty Try.prog 35 true 6 72 (.agg #[.string ByteArray.empty, .string ByteArray.empty, .int .i64 0, .string ByteArray.empty, .int .i64 0, .int .i64 0]) := ⟨by kernel_rfl, by kernel_rfl⟩
instance StructTy35 : StructTy Try.prog 35 [33, 3, 9, 3, 3] := ⟨by kernel_rfl, by kernel_rfl⟩
instance BuildTy35 : BuildTy Try.prog 35 [(0, 2), (2, 1), (3, 1), (4, 1), (5, 1)] := ⟨by kernel_rfl, fun _ => by kernel_rfl⟩
instance EqTy35 : EqTy Try.prog 35 [(33, 0), (3, 2), (9, 3), (3, 4), (3, 5)] := ⟨by kernel_rfl, by kernel_rfl, by kernel_rfl, by kernel_rfl⟩
instance FieldTy35_0 : FieldTy Try.prog 35 0 0 := ⟨fun _ _ => by kernel_rfl⟩
instance FieldTy35_1 : FieldTy Try.prog 35 1 2 := ⟨fun _ _ => by kernel_rfl⟩
instance FieldTy35_2 : FieldTy Try.prog 35 2 3 := ⟨fun _ _ => by kernel_rfl⟩
instance FieldTy35_3 : FieldTy Try.prog 35 3 4 := ⟨fun _ _ => by kernel_rfl⟩
instance FieldTy35_4 : FieldTy Try.prog 35 4 5 := ⟨fun _ _ => by kernel_rfl⟩
instance Ty37 : Ty Try.prog 37 true 7 80 (.agg #[.int .i64 0, .string ByteArray.empty, .string ByteArray.empty, .int .i64 0, .string ByteArray.empty, .int .i64 0, .int .i64 0]) := ⟨by kernel_rfl, by kernel_rfl⟩
instance StructTy37 : StructTy Try.prog 37 [3, 33, 3, 9, 3, 3] := ⟨by kernel_rfl, by kernel_rfl⟩
instance BuildTy37 : BuildTy Try.prog 37 [(0, 1), (1, 2), (3, 1), (4, 1), (5, 1), (6, 1)] := ⟨by kernel_rfl, fun _ => by kernel_rfl⟩
instance FieldTy37_0 : FieldTy Try.prog 37 0 0 := ⟨fun _ _ => by kernel_rfl⟩
instance FieldTy37_1 : FieldTy Try.prog 37 1 1 := ⟨fun _ _ => by kernel_rfl⟩
instance FieldTy37_2 : FieldTy Try.prog 37 2 3 := ⟨fun _ _ => by kernel_rfl⟩
instance FieldTy37_3 : FieldTy Try.prog 37 3 4 := ⟨fun _ _ => by kernel_rfl⟩
instance FieldTy37_4 : FieldTy Try.prog 37 4 5 := ⟨fun _ _ => by kernel_rfl⟩
instance FieldTy37_5 : FieldTy Try.prog 37 5 6 := ⟨fun _ _ => by kernel_rfl⟩
instance Ty38 : Ty Try.prog 38 true 7 80 (.agg #[.int .i64 0, .string ByteArray.empty, .string ByteArray.empty, .int .i64 0, .string ByteArray.empty, .int .i64 0, .int .i64 0]) := ⟨by kernel_rfl, by kernel_rfl⟩
instance StructTy38 : StructTy Try.prog 38 [3, 33, 3, 9, 3, 3] := ⟨by kernel_rfl, by kernel_rfl⟩
instance BuildTy38 : BuildTy Try.prog 38 [(0, 1), (1, 2), (3, 1), (4, 1), (5, 1), (6, 1)] := ⟨by kernel_rfl, fun _ => by kernel_rfl⟩
instance EqTy38 : EqTy Try.prog 38 [(3, 0), (33, 1), (3, 3), (9, 4), (3, 5), (3, 6)] := ⟨by kernel_rfl, by kernel_rfl, by kernel_rfl, by kernel_rfl⟩
instance FieldTy38_0 : FieldTy Try.prog 38 0 0 := ⟨fun _ _ => by kernel_rfl⟩
instance FieldTy38_1 : FieldTy Try.prog 38 1 1 := ⟨fun _ _ => by kernel_rfl⟩
instance FieldTy38_2 : FieldTy Try.prog 38 2 3 := ⟨fun _ _ => by kernel_rfl⟩
instance FieldTy38_3 : FieldTy Try.prog 38 3 4 := ⟨fun _ _ => by kernel_rfl⟩
instance FieldTy38_4 : FieldTy Try.prog 38 4 5 := ⟨fun _ _ => by kernel_rfl⟩
instance FieldTy38_5 : FieldTy Try.prog 38 5 6 := ⟨fun _ _ => by kernel_rfl⟩
instance Ty49 : Ty Try.prog 49 false 1 24 (.slice none 0 0) := ⟨by kernel_rfl, by kernel_rfl⟩
instance SliceTy49 : SliceTy Try.prog 49 52 := ⟨by kernel_rfl⟩
instance Ty51 : Ty Try.prog 51 true 8 88 (.agg #[.int .i64 0, .int .i64 0, .string ByteArray.empty, .string ByteArray.empty, .int .i64 0, .string ByteArray.empty, .int .i64 0, .int .i64 0]) := ⟨by kernel_rfl, by kernel_rfl⟩
instance StructTy51 : StructTy Try.prog 51 [3, 3, 35] := ⟨by kernel_rfl, by kernel_rfl⟩
instance BuildTy51 : BuildTy Try.prog 51 [(0, 1), (1, 1), (2, 6)] := ⟨by kernel_rfl, fun _ => by kernel_rfl⟩
instance FieldTy51_0 : FieldTy Try.prog 51 0 0 := ⟨fun _ _ => by kernel_rfl⟩
instance FieldTy51_1 : FieldTy Try.prog 51 1 1 := ⟨fun _ _ => by kernel_rfl⟩
instance FieldTy51_2 : FieldTy Try.prog 51 2 2 := ⟨fun _ _ => by kernel_rfl⟩
instance Ty52 : Ty Try.prog 52 true 8 88 (.agg #[.int .i64 0, .int .i64 0, .string ByteArray.empty, .string ByteArray.empty, .int .i64 0, .string ByteArray.empty, .int .i64 0, .int .i64 0]) := ⟨by kernel_rfl, by kernel_rfl⟩
instance StructTy52 : StructTy Try.prog 52 [3, 3, 35] := ⟨by kernel_rfl, by kernel_rfl⟩
instance BuildTy52 : BuildTy Try.prog 52 [(0, 1), (1, 1), (2, 6)] := ⟨by kernel_rfl, fun _ => by kernel_rfl⟩
instance FieldTy52_0 : FieldTy Try.prog 52 0 0 := ⟨fun _ _ => by kernel_rfl⟩
instance FieldTy52_1 : FieldTy Try.prog 52 1 1 := ⟨fun _ _ => by kernel_rfl⟩
instance FieldTy52_2 : FieldTy Try.prog 52 2 2 := ⟨fun _ _ => by kernel_rfl⟩
instance Ty55 : Ty Try.prog 55 false 1 24 (.slice none 0 0) := ⟨by kernel_rfl, by kernel_rfl⟩
instance SliceTy55 : SliceTy Try.prog 55 3 := ⟨by kernel_rfl⟩
instance Ty75 : Ty Try.prog 75 true 4 40 (.agg #[.pointer none, .pointer none, .pointer none, .string ByteArray.empty]) := ⟨by kernel_rfl, by kernel_rfl⟩
instance StructTy75 : StructTy Try.prog 75 [17, 17, 17, 9] := ⟨by kernel_rfl, by kernel_rfl⟩
instance BuildTy75 : BuildTy Try.prog 75 [(0, 1), (1, 1), (2, 1), (3, 1)] := ⟨by kernel_rfl, fun _ => by kernel_rfl⟩
instance FieldTy75_0 : FieldTy Try.prog 75 0 0 := ⟨fun _ _ => by kernel_rfl⟩
instance FieldTy75_1 : FieldTy Try.prog 75 1 1 := ⟨fun _ _ => by kernel_rfl⟩
instance FieldTy75_2 : FieldTy Try.prog 75 2 2 := ⟨fun _ _ => by kernel_rfl⟩
instance FieldTy75_3 : FieldTy Try.prog 75 3 3 := ⟨fun _ _ => by kernel_rfl⟩
instance Ty76 : Ty Try.prog 76 true 4 40 (.agg #[.pointer none, .pointer none, .pointer none, .string ByteArray.empty]) := ⟨by kernel_rfl, by kernel_rfl⟩
instance StructTy76 : StructTy Try.prog 76 [17, 17, 17, 9] := ⟨by kernel_rfl, by kernel_rfl⟩
instance BuildTy76 : BuildTy Try.prog 76 [(0, 1), (1, 1), (2, 1), (3, 1)] := ⟨by kernel_rfl, fun _ => by kernel_rfl⟩
instance FieldTy76_0 : FieldTy Try.prog 76 0 0 := ⟨fun _ _ => by kernel_rfl⟩
instance FieldTy76_1 : FieldTy Try.prog 76 1 1 := ⟨fun _ _ => by kernel_rfl⟩
instance FieldTy76_2 : FieldTy Try.prog 76 2 2 := ⟨fun _ _ => by kernel_rfl⟩
instance FieldTy76_3 : FieldTy Try.prog 76 3 3 := ⟨fun _ _ => by kernel_rfl⟩
instance Ty77 : Ty Try.prog 77 true 0 0 (.agg #[]) := ⟨by kernel_rfl, by kernel_rfl⟩
instance ArrayTy77 : ArrayTy Try.prog 77 0 16 := ⟨by kernel_rfl⟩
instance Ty78 : Ty Try.prog 78 true 0 0 (.agg #[]) := ⟨by kernel_rfl, by kernel_rfl⟩
instance StructTy78 : StructTy Try.prog 78 [77] := ⟨by kernel_rfl, by kernel_rfl⟩
instance BuildTy78 : BuildTy Try.prog 78 [(0, 0)] := ⟨by kernel_rfl, fun _ => by kernel_rfl⟩
instance Ty79 : Ty Try.prog 79 true 0 0 (.agg #[]) := ⟨by kernel_rfl, by kernel_rfl⟩
instance StructTy79 : StructTy Try.prog 79 [77] := ⟨by kernel_rfl, by kernel_rfl⟩
instance BuildTy79 : BuildTy Try.prog 79 [(0, 0)] := ⟨by kernel_rfl, fun _ => by kernel_rfl⟩
instance Ty81 : Ty Try.prog 81 false 1 4 (.int .u32 0) := ⟨by kernel_rfl, by kernel_rfl⟩
instance IntTy81 : IntTy Try.prog 81 .u32 := ⟨by kernel_rfl⟩
instance Ty82 : Ty Try.prog 82 false 1 1 (.int .u8 0) := ⟨by kernel_rfl, by kernel_rfl⟩
instance IntTy82 : IntTy Try.prog 82 .u8 := ⟨by kernel_rfl⟩
instance Ty83 : Ty Try.prog 83 false 1 1 (.int .u8 0) := ⟨by kernel_rfl, by kernel_rfl⟩
instance IntTy83 : IntTy Try.prog 83 .u8 := ⟨by kernel_rfl⟩
instance Ty85 : Ty Try.prog 85 false 1 8 (.pointer none) := ⟨by kernel_rfl, by kernel_rfl⟩
instance Ty86 : Ty Try.prog 86 false 1 4 (.int .i32 0) := ⟨by kernel_rfl, by kernel_rfl⟩
instance IntTy86 : IntTy Try.prog 86 .i32 := ⟨by kernel_rfl⟩
instance Ty87 : Ty Try.prog 87 false 1 4 (.int .i32 0) := ⟨by kernel_rfl, by kernel_rfl⟩
instance IntTy87 : IntTy Try.prog 87 .i32 := ⟨by kernel_rfl⟩
instance Ty88 : Ty Try.prog 88 true 11 48 (.agg #[.int .u64 0, .int .u64 0, .int .u32 0, .int .u8 0, .int .u8 0, .int .u8 0, .int .u8 0, .nilFunc, .pointer none, .int .i32 0, .int .i32 0]) := ⟨by kernel_rfl, by kernel_rfl⟩
instance StructTy88 : StructTy Try.prog 88 [12, 12, 81, 82, 5, 5, 83, 84, 85, 86, 87] := ⟨by kernel_rfl, by kernel_rfl⟩
instance BuildTy88 : BuildTy Try.prog 88 [(0, 1), (1, 1), (2, 1), (3, 1), (4, 1), (5, 1), (6, 1), (7, 1), (8, 1), (9, 1), (10, 1)] := ⟨by kernel_rfl, fun _ => by kernel_rfl⟩
instance FieldTy88_0 : FieldTy Try.prog 88 0 0 := ⟨fun _ _ => by kernel_rfl⟩
instance FieldTy88_1 : FieldTy Try.prog 88 1 1 := ⟨fun _ _ => by kernel_rfl⟩
instance FieldTy88_2 : FieldTy Try.prog 88 2 2 := ⟨fun _ _ => by kernel_rfl⟩
instance FieldTy88_3 : FieldTy Try.prog 88 3 3 := ⟨fun _ _ => by kernel_rfl⟩
instance FieldTy88_4 : FieldTy Try.prog 88 4 4 := ⟨fun _ _ => by kernel_rfl⟩
instance FieldTy88_5 : FieldTy Try.prog 88 5 5 := ⟨fun _ _ => by kernel_rfl⟩
instance FieldTy88_6 : FieldTy Try.prog 88 6 6 := ⟨fun _ _ => by kernel_rfl⟩
instance FieldTy88_7 : FieldTy Try.prog 88 7 7 := ⟨fun _ _ => by kernel_rfl⟩
instance FieldTy88_8 : FieldTy Try.prog 88 8 8 := ⟨fun _ _ => by kernel_rfl⟩
instance FieldTy88_9 : FieldTy Try.prog 88 9 9 := ⟨fun _ _ => by kernel_rfl⟩
instance FieldTy88_10 : FieldTy Try.prog 88 10 10 := ⟨fun _ _ => by kernel_rfl⟩
instance Ty89 : Ty Try.prog 89 true 11 48 (.agg #[.int .u64 0, .int .u64 0, .int .u32 0, .int .u8 0, .int .u8 0, .int .u8 0, .int .u8 0, .nilFunc, .pointer none, .int .i32 0, .int .i32 0]) := ⟨by kernel_rfl, by kernel_rfl⟩
instance StructTy89 : StructTy Try.prog 89 [12, 12, 81, 82, 5, 5, 83, 84, 85, 86, 87] := ⟨by kernel_rfl, by kernel_rfl⟩
instance BuildTy89 : BuildTy Try.prog 89 [(0, 1), (1, 1), (2, 1), (3, 1), (4, 1), (5, 1), (6, 1), (7, 1), (8, 1), (9, 1), (10, 1)] := ⟨by kernel_rfl, fun _ => by kernel_rfl⟩
instance FieldTy89_0 : FieldTy Try.prog 89 0 0 := ⟨fun _ _ => by kernel_rfl⟩
instance FieldTy89_1 : FieldTy Try.prog 89 1 1 := ⟨fun _ _ => by kernel_rfl⟩
instance FieldTy89_2 : FieldTy Try.prog 89 2 2 := ⟨fun _ _ => by kernel_rfl⟩
instance FieldTy89_3 : FieldTy Try.prog 89 3 3 := ⟨fun _ _ => by kernel_rfl⟩
instance FieldTy89_4 : FieldTy Try.prog 89 4 4 := ⟨fun _ _ => by kernel_rfl⟩
instance FieldTy89_5 : FieldTy Try.prog 89 5 5 := ⟨fun _ _ => by kernel_rfl⟩
instance FieldTy89_6 : FieldTy Try.prog 89 6 6 := ⟨fun _ _ => by kernel_rfl⟩
instance FieldTy89_7 : FieldTy Try.prog 89 7 7 := ⟨fun _ _ => by kernel_rfl⟩
instance FieldTy89_8 : FieldTy Try.prog 89 8 8 := ⟨fun _ _ => by kernel_rfl⟩
instance FieldTy89_9 : FieldTy Try.prog 89 9 9 := ⟨fun _ _ => by kernel_rfl⟩
instance FieldTy89_10 : FieldTy Try.prog 89 10 10 := ⟨fun _ _ => by kernel_rfl⟩
instance Elem2 : Elem Try.prog 2 1 8 := ⟨⟨_, _, Ty2, rfl⟩, by decide⟩
instance Elem3 : Elem Try.prog 3 1 8 := ⟨⟨_, _, Ty3, rfl⟩, by decide⟩
instance Elem4 : Elem Try.prog 4 1 1 := ⟨⟨_, _, Ty4, rfl⟩, by decide⟩
instance Elem5 : Elem Try.prog 5 1 1 := ⟨⟨_, _, Ty5, rfl⟩, by decide⟩
instance Elem6 : Elem Try.prog 6 1 1 := ⟨⟨_, _, Ty6, rfl⟩, by decide⟩
instance Elem7 : Elem Try.prog 7 4 24 := ⟨⟨_, _, Ty7, rfl⟩, by decide⟩
instance Elem8 : Elem Try.prog 8 4 24 := ⟨⟨_, _, Ty8, rfl⟩, by decide⟩
instance Elem9 : Elem Try.prog 9 1 16 := ⟨⟨_, _, Ty9, rfl⟩, by decide⟩
instance Elem10 : Elem Try.prog 10 1 16 := ⟨⟨_, _, Ty10, rfl⟩, by decide⟩
instance Elem11 : Elem Try.prog 11 1 16 := ⟨⟨_, _, Ty11, rfl⟩, by decide⟩
instance Elem12 : Elem Try.prog 12 1 8 := ⟨⟨_, _, Ty12, rfl⟩, by decide⟩
instance Elem13 : Elem Try.prog 13 2 24 := ⟨⟨_, _, Ty13, rfl⟩, by decide⟩
instance Elem14 : Elem Try.prog 14 2 24 := ⟨⟨_, _, Ty14, rfl⟩, by decide⟩
instance Elem15 : Elem Try.prog 15 1 8 := ⟨⟨_, _, Ty15, rfl⟩, by decide⟩
instance Elem16 : Elem Try.prog 16 1 8 := ⟨⟨_, _, Ty16, rfl⟩, by decide⟩
instance Elem17 : Elem Try.prog 17 1 8 := ⟨⟨_, _, Ty17, rfl⟩, by decide⟩
instance Elem18 : Elem Try.prog 18 1 8 := ⟨⟨_, _, Ty18, rfl⟩, by decide⟩
instance Elem19 : Elem Try.prog 19 1 8 := ⟨⟨_, _, Ty19, rfl⟩, by decide⟩
instance Elem21 : Elem Try.prog 21 1 4 := ⟨⟨_, _, Ty21, rfl⟩, by decide⟩
instance Elem22 : Elem Try.prog 22 1 24 := ⟨⟨_, _, Ty22, rfl⟩, by decide⟩
instance Elem23 : Elem Try.prog 23 2 32 := ⟨⟨_, _, Ty23, rfl⟩, by decide⟩
instance Elem24 : Elem Try.prog 24 2 32 := ⟨⟨_, _, Ty24, rfl⟩, by decide⟩
instance Elem26 : Elem Try.prog 26 1 8 := ⟨⟨_, _, Ty26, rfl⟩, by decide⟩
instance Elem32 : Elem Try.prog 32 2 32 := ⟨⟨_, _, Ty32, rfl⟩, by decide⟩
instance Elem33 : Elem Try.prog 33 2 32 := ⟨⟨_, _, Ty33, rfl⟩, by decide⟩
instance Elem34 : Elem Try.prog 34 6 72 := ⟨⟨_, _, Ty34, rfl⟩, by decide⟩
instance Elem35 : Elem Try.prog 35 6 72 := ⟨⟨_, _, Ty35, rfl⟩, by decide⟩
instance Elem37 : Elem Try.prog 37 7 80 := ⟨⟨_, _, Ty37, rfl⟩, by decide⟩
instance Elem38 : Elem Try.prog 38 7 80 := ⟨⟨_, _, Ty38, rfl⟩, by decide⟩
instance Elem49 : Elem Try.prog 49 1 24 := ⟨⟨_, _, Ty49, rfl⟩, by decide⟩
instance Elem51 : Elem Try.prog 51 8 88 := ⟨⟨_, _, Ty51, rfl⟩, by decide⟩
instance Elem52 : Elem Try.prog 52 8 88 := ⟨⟨_, _, Ty52, rfl⟩, by decide⟩
instance Elem55 : Elem Try.prog 55 1 24 := ⟨⟨_, _, Ty55, rfl⟩, by decide⟩
instance Elem75 : Elem Try.prog 75 4 40 := ⟨⟨_, _, Ty75, rfl⟩, by decide⟩
instance Elem76 : Elem Try.prog 76 4 40 := ⟨⟨_, _, Ty76, rfl⟩, by decide⟩
instance Elem81 : Elem Try.prog 81 1 4 := ⟨⟨_, _, Ty81, rfl⟩, by decide⟩
instance Elem82 : Elem Try.prog 82 1 1 := ⟨⟨_, _, Ty82, rfl⟩, by decide⟩
instance Elem83 : Elem Try.prog 83 1 1 := ⟨⟨_, _, Ty83, rfl⟩, by decide⟩
instance Elem85 : Elem Try.prog 85 1 8 := ⟨⟨_, _, Ty85, rfl⟩, by decide⟩
instance Elem86 : Elem Try.prog 86 1 4 := ⟨⟨_, _, Ty86, rfl⟩, by decide⟩
instance Elem87 : Elem Try.prog 87 1 4 := ⟨⟨_, _, Ty87, rfl⟩, by decide⟩
instance Elem88 : Elem Try.prog 88 11 48 := ⟨⟨_, _, Ty88, rfl⟩, by decide⟩
instance Elem89 : Elem Try.prog 89 11 48 := ⟨⟨_, _, Ty89, rfl⟩, by decide⟩
instance FnTy3 : FnTy Try.prog 3 := ⟨fun _ _ => by kernel_rfl⟩
instance FnTy4 : FnTy Try.prog 4 := ⟨fun _ _ => by kernel_rfl⟩
instance FnTy5 : FnTy Try.prog 5 := ⟨fun _ _ => by kernel_rfl⟩
instance FnTy6 : FnTy Try.prog 6 := ⟨fun _ _ => by kernel_rfl⟩
instance FnTy7 : FnTy Try.prog 7 := ⟨fun _ _ => by kernel_rfl⟩
instance FnTy8 : FnTy Try.prog 8 := ⟨fun _ _ => by kernel_rfl⟩
instance FnTy9 : FnTy Try.prog 9 := ⟨fun _ _ => by kernel_rfl⟩
instance FnTy10 : FnTy Try.prog 10 := ⟨fun _ _ => by kernel_rfl⟩
instance FnTy11 : FnTy Try.prog 11 := ⟨fun _ _ => by kernel_rfl⟩
instance FnTy12 : FnTy Try.prog 12 := ⟨fun _ _ => by kernel_rfl⟩
instance FnTy13 : FnTy Try.prog 13 := ⟨fun _ _ => by kernel_rfl⟩
instance FnTy14 : FnTy Try.prog 14 := ⟨fun _ _ => by kernel_rfl⟩
instance FnTy15 : FnTy Try.prog 15 := ⟨fun _ _ => by kernel_rfl⟩
instance FnTy16 : FnTy Try.prog 16 := ⟨fun _ _ => by kernel_rfl⟩
instance FnTy17 : FnTy Try.prog 17 := ⟨fun _ _ => by kernel_rfl⟩
instance FnTy18 : FnTy Try.prog 18 := ⟨fun _ _ => by kernel_rfl⟩
instance FnTy19 : FnTy Try.prog 19 := ⟨fun _ _ => by kernel_rfl⟩
instance FnTy20 : FnTy Try.prog 20 := ⟨fun _ _ => by kernel_rfl⟩
instance FnTy21 : FnTy Try.prog 21 := ⟨fun _ _ => by kernel_rfl⟩
instance FnTy22 : FnTy Try.prog 22 := ⟨fun _ _ => by kernel_rfl⟩
instance FnTy23 : FnTy Try.prog 23 := ⟨fun _ _ => by kernel_rfl⟩
instance FnTy24 : FnTy Try.prog 24 := ⟨fun _ _ => by kernel_rfl⟩
instance FnTy25 : FnTy Try.prog 25 := ⟨fun _ _ => by kernel_rfl⟩
instance FnTy26 : FnTy Try.prog 26 := ⟨fun _ _ => by kernel_rfl⟩
instance FnTy27 : FnTy Try.prog 27 := ⟨fun _ _ => by kernel_rfl⟩
instance FnTy28 : FnTy Try.prog 28 := ⟨fun _ _ => by kernel_rfl⟩
instance FnTy29 : FnTy Try.prog 29 := ⟨fun _ _ => by kernel_rfl⟩
instance FnTy30 : FnTy Try.prog 30 := ⟨fun _ _ => by kernel_rfl⟩
instance FnTy31 : FnTy Try.prog 31 := ⟨fun _ _ => by kernel_rfl⟩
instance FnTy32 : FnTy Try.prog 32 := ⟨fun _ _ => by kernel_rfl⟩
instance FnTy33 : FnTy Try.prog 33 := ⟨fun _ _ => by kernel_rfl⟩
instance FnTy34 : FnTy Try.prog 34 := ⟨fun _ _ => by kernel_rfl⟩
instance FnTy35 : FnTy Try.prog 35 := ⟨fun _ _ => by kernel_rfl⟩
instance FnTy36 : FnTy Try.prog 36 := ⟨fun _ _ => by kernel_rfl⟩
instance FnTy37 : FnTy Try.prog 37 := ⟨fun _ _ => by kernel_rfl⟩
instance FnTy38 : FnTy Try.prog 38 := ⟨fun _ _ => by kernel_rfl⟩
instance FnTy39 : FnTy Try.prog 39 := ⟨fun _ _ => by kernel_rfl⟩
instance FnTy40 : FnTy Try.prog 40 := ⟨fun _ _ => by kernel_rfl⟩
instance FnTy41 : FnTy Try.prog 41 := ⟨fun _ _ => by kernel_rfl⟩
instance FnTy42 : FnTy Try.prog 42 := ⟨fun _ _ => by kernel_rfl⟩
instance FnTy43 : FnTy Try.prog 43 := ⟨fun _ _ => by kernel_rfl⟩
instance FnTy44 : FnTy Try.prog 44 := ⟨fun _ _ => by kernel_rfl⟩
instance FnTy45 : FnTy Try.prog 45 := ⟨fun _ _ => by kernel_rfl⟩
instance FnTy46 : FnTy Try.prog 46 := ⟨fun _ _ => by kernel_rfl⟩
instance FnTy47 : FnTy Try.prog 47 := ⟨fun _ _ => by kernel_rfl⟩
theorem mixed : Try.prog.follows .mixedOrders = true := by kernel_rfl
end Go.Proofs.Ytdmabodhmkgimaa
