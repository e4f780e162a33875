/- The program's tables as instances. Printed by a program of ours (wip/tools/gen_ty.py). -/
import Derived.Test.YtobifgpnfcnejaaChecked
import Derived.Test.YtobifgpnfcnejaaC23
namespace Go.Proofs.Ytobifgpnfcnejaa
open Go Go.Sym
instance Ty2 : Ty Try.prog 2 false 1 8 (.int .i64 0) := ⟨by kernel_rfl, by kernel_rfl⟩
instance IntTy2 : IntTy Try.prog 2 .i64 := ⟨by kernel_rfl⟩
instance Ty3 : Ty Try.prog 3 false 1 8 (.int .i64 0) := ⟨by kernel_rfl, by kernel_rfl⟩
instance IntTy3 : IntTy Try.prog 3 .i64 := ⟨by kernel_rfl⟩
instance Ty4 : Ty Try.prog 4 false 1 1 (.bool false) := ⟨by kernel_rfl, by kernel_rfl⟩
instance BoolTy4 : BoolTy Try.prog 4 := ⟨by kernel_rfl⟩
instance Ty5 : Ty Try.prog 5 false 1 1 (.int .u8 0) := ⟨by kernel_rfl, by kernel_rfl⟩
instance IntTy5 : IntTy Try.prog 5 .u8 := ⟨by kernel_rfl⟩
instance Ty6 : Ty Try.prog 6 false 1 1 (.int .u8 0) := ⟨by kernel_rfl, by kernel_rfl⟩
instance IntTy6 : IntTy Try.prog 6 .u8 := ⟨by kernel_rfl⟩
instance Ty7 : Ty Try.prog 7 true 4 24 (.agg #[.int .i64 0, .int .i64 0, .bool false, .int .u8 0]) := ⟨by kernel_rfl, by kernel_rfl⟩
instance StructTy7 : StructTy Try.prog 7 [2, 3, 4, 6] := ⟨by kernel_rfl, by kernel_rfl⟩
instance BuildTy7 : BuildTy Try.prog 7 [(0, 1), (1, 1), (2, 1), (3, 1)] := ⟨by kernel_rfl, fun _ => by kernel_rfl⟩
instance FieldTy7_0 : FieldTy Try.prog 7 0 0 := ⟨fun _ _ => by kernel_rfl⟩
instance FieldTy7_1 : FieldTy Try.prog 7 1 1 := ⟨fun _ _ => by kernel_rfl⟩
instance FieldTy7_2 : FieldTy Try.prog 7 2 2 := ⟨fun _ _ => by kernel_rfl⟩
instance FieldTy7_3 : FieldTy Try.prog 7 3 3 := ⟨fun _ _ => by kernel_rfl⟩
instance Ty8 : Ty Try.prog 8 true 4 24 (.agg #[.int .i64 0, .int .i64 0, .bool false, .int .u8 0]) := ⟨by kernel_rfl, by kernel_rfl⟩
instance StructTy8 : StructTy Try.prog 8 [2, 3, 4, 6] := ⟨by kernel_rfl, by kernel_rfl⟩
instance BuildTy8 : BuildTy Try.prog 8 [(0, 1), (1, 1), (2, 1), (3, 1)] := ⟨by kernel_rfl, fun _ => by kernel_rfl⟩
instance FieldTy8_0 : FieldTy Try.prog 8 0 0 := ⟨fun _ _ => by kernel_rfl⟩
instance FieldTy8_1 : FieldTy Try.prog 8 1 1 := ⟨fun _ _ => by kernel_rfl⟩
instance FieldTy8_2 : FieldTy Try.prog 8 2 2 := ⟨fun _ _ => by kernel_rfl⟩
instance FieldTy8_3 : FieldTy Try.prog 8 3 3 := ⟨fun _ _ => by kernel_rfl⟩
instance Ty9 : Ty Try.prog 9 false 1 16 (.string ByteArray.empty) := ⟨by kernel_rfl, by kernel_rfl⟩
instance StrTy9 : StrTy Try.prog 9 := ⟨by kernel_rfl⟩
instance Ty10 : Ty Try.prog 10 false 1 16 (.string ByteArray.empty) := ⟨by kernel_rfl, by kernel_rfl⟩
instance StrTy10 : StrTy Try.prog 10 := ⟨by kernel_rfl⟩
instance Ty11 : Ty Try.prog 11 false 1 16 (.string ByteArray.empty) := ⟨by kernel_rfl, by kernel_rfl⟩
instance StrTy11 : StrTy Try.prog 11 := ⟨by kernel_rfl⟩
instance Ty12 : Ty Try.prog 12 false 1 8 (.int .u64 0) := ⟨by kernel_rfl, by kernel_rfl⟩
instance IntTy12 : IntTy Try.prog 12 .u64 := ⟨by kernel_rfl⟩
instance Ty13 : Ty Try.prog 13 true 2 24 (.agg #[.string ByteArray.empty, .int .u64 0]) := ⟨by kernel_rfl, by kernel_rfl⟩
instance StructTy13 : StructTy Try.prog 13 [9, 12] := ⟨by kernel_rfl, by kernel_rfl⟩
instance BuildTy13 : BuildTy Try.prog 13 [(0, 1), (1, 1)] := ⟨by kernel_rfl, fun _ => by kernel_rfl⟩
instance FieldTy13_0 : FieldTy Try.prog 13 0 0 := ⟨fun _ _ => by kernel_rfl⟩
instance FieldTy13_1 : FieldTy Try.prog 13 1 1 := ⟨fun _ _ => by kernel_rfl⟩
instance Ty14 : Ty Try.prog 14 true 2 24 (.agg #[.string ByteArray.empty, .int .u64 0]) := ⟨by kernel_rfl, by kernel_rfl⟩
instance StructTy14 : StructTy Try.prog 14 [9, 12] := ⟨by kernel_rfl, by kernel_rfl⟩
instance BuildTy14 : BuildTy Try.prog 14 [(0, 1), (1, 1)] := ⟨by kernel_rfl, fun _ => by kernel_rfl⟩
instance FieldTy14_0 : FieldTy Try.prog 14 0 0 := ⟨fun _ _ => by kernel_rfl⟩
instance FieldTy14_1 : FieldTy Try.prog 14 1 1 := ⟨fun _ _ => by kernel_rfl⟩
instance Ty15 : Ty Try.prog 15 false 1 8 (.pointer none) := ⟨by kernel_rfl, by kernel_rfl⟩
instance Ty16 : Ty Try.prog 16 false 1 8 (.pointer none) := ⟨by kernel_rfl, by kernel_rfl⟩
instance Ty17 : Ty Try.prog 17 false 1 8 (.pointer none) := ⟨by kernel_rfl, by kernel_rfl⟩
instance Ty18 : Ty Try.prog 18 true 1 8 (.agg #[.pointer none]) := ⟨by kernel_rfl, by kernel_rfl⟩
instance StructTy18 : StructTy Try.prog 18 [17] := ⟨by kernel_rfl, by kernel_rfl⟩
instance BuildTy18 : BuildTy Try.prog 18 [(0, 1)] := ⟨by kernel_rfl, fun _ => by kernel_rfl⟩
instance FieldTy18_0 : FieldTy Try.prog 18 0 0 := ⟨fun _ _ => by kernel_rfl⟩
instance Ty19 : Ty Try.prog 19 true 1 8 (.agg #[.pointer none]) := ⟨by kernel_rfl, by kernel_rfl⟩
instance StructTy19 : StructTy Try.prog 19 [17] := ⟨by kernel_rfl, by kernel_rfl⟩
instance BuildTy19 : BuildTy Try.prog 19 [(0, 1)] := ⟨by kernel_rfl, fun _ => by kernel_rfl⟩
instance FieldTy19_0 : FieldTy Try.prog 19 0 0 := ⟨fun _ _ => by kernel_rfl⟩
instance Ty21 : Ty Try.prog 21 false 1 4 (.int .i32 0) := ⟨by kernel_rfl, by kernel_rfl⟩
instance IntTy21 : IntTy Try.prog 21 .i32 := ⟨by kernel_rfl⟩
instance Ty22 : Ty Try.prog 22 false 1 8 (.int .u64 0) := ⟨by kernel_rfl, by kernel_rfl⟩
instance IntTy22 : IntTy Try.prog 22 .u64 := ⟨by kernel_rfl⟩
instance Ty23 : Ty Try.prog 23 false 1 8 (.int .u64 0) := ⟨by kernel_rfl, by kernel_rfl⟩
instance IntTy23 : IntTy Try.prog 23 .u64 := ⟨by kernel_rfl⟩
instance Ty24 : Ty Try.prog 24 true 6 56 (.agg #[.string ByteArray.empty, .int .i64 0, .int .i64 0, .int .i64 0, .int .u64 0, .int .i64 0]) := ⟨by kernel_rfl, by kernel_rfl⟩
instance StructTy24 : StructTy Try.prog 24 [9, 3, 3, 3, 23, 3] := ⟨by kernel_rfl, by kernel_rfl⟩
instance BuildTy24 : BuildTy Try.prog 24 [(0, 1), (1, 1), (2, 1), (3, 1), (4, 1), (5, 1)] := ⟨by kernel_rfl, fun _ => by kernel_rfl⟩
instance FieldTy24_0 : FieldTy Try.prog 24 0 0 := ⟨fun _ _ => by kernel_rfl⟩
instance FieldTy24_1 : FieldTy Try.prog 24 1 1 := ⟨fun _ _ => by kernel_rfl⟩
instance FieldTy24_2 : FieldTy Try.prog 24 2 2 := ⟨fun _ _ => by kernel_rfl⟩
instance FieldTy24_3 : FieldTy Try.prog 24 3 3 := ⟨fun _ _ => by kernel_rfl⟩
instance FieldTy24_4 : FieldTy Try.prog 24 4 4 := ⟨fun _ _ => by kernel_rfl⟩
instance FieldTy24_5 : FieldTy Try.prog 24 5 5 := ⟨fun _ _ => by kernel_rfl⟩
instance Ty25 : Ty Try.prog 25 true 6 56 (.agg #[.string ByteArray.empty, .int .i64 0, .int .i64 0, .int .i64 0, .int .u64 0, .int .i64 0]) := ⟨by kernel_rfl, by kernel_rfl⟩
instance StructTy25 : StructTy Try.prog 25 [9, 3, 3, 3, 23, 3] := ⟨by kernel_rfl, by kernel_rfl⟩
instance BuildTy25 : BuildTy Try.prog 25 [(0, 1), (1, 1), (2, 1), (3, 1), (4, 1), (5, 1)] := ⟨by kernel_rfl, fun _ => by kernel_rfl⟩
instance EqTy25 : EqTy Try.prog 25 [(9, 0), (3, 1), (3, 2), (3, 3), (23, 4), (3, 5)] := ⟨by kernel_rfl, by kernel_rfl, by kernel_rfl, by kernel_rfl⟩
instance FieldTy25_0 : FieldTy Try.prog 25 0 0 := ⟨fun _ _ => by kernel_rfl⟩
instance FieldTy25_1 : FieldTy Try.prog 25 1 1 := ⟨fun _ _ => by kernel_rfl⟩
instance FieldTy25_2 : FieldTy Try.prog 25 2 2 := ⟨fun _ _ => by kernel_rfl⟩
instance FieldTy25_3 : FieldTy Try.prog 25 3 3 := ⟨fun _ _ => by kernel_rfl⟩
instance FieldTy25_4 : FieldTy Try.prog 25 4 4 := ⟨fun _ _ => by kernel_rfl⟩
instance FieldTy25_5 : FieldTy Try.prog 25 5 5 := ⟨fun _ _ => by kernel_rfl⟩
instance Ty30 : Ty Try.prog 30 false 1 24 (.slice none 0 0) := ⟨by kernel_rfl, by kernel_rfl⟩
instance SliceTy30 : SliceTy Try.prog 30 25 := ⟨by kernel_rfl⟩
instance Ty31 : Ty Try.prog 31 false 1 24 (.slice none 0 0) := ⟨by kernel_rfl, by kernel_rfl⟩
instance SliceTy31 : SliceTy Try.prog 31 38 := ⟨by kernel_rfl⟩
instance Ty33 : Ty Try.prog 33 false 1 8 (.int .i64 0) := ⟨by kernel_rfl, by kernel_rfl⟩
instance IntTy33 : IntTy Try.prog 33 .i64 := ⟨by kernel_rfl⟩
instance Ty36 : Ty Try.prog 36 false 1 24 (.slice none 0 0) := ⟨by kernel_rfl, by kernel_rfl⟩
instance SliceTy36 : SliceTy Try.prog 36 46 := ⟨by kernel_rfl⟩
instance Ty37 : Ty Try.prog 37 true 2 32 (.agg #[.slice none 0 0, .int .u64 0]) := ⟨by kernel_rfl, by kernel_rfl⟩
instance StructTy37 : StructTy Try.prog 37 [36, 23] := ⟨by kernel_rfl, by kernel_rfl⟩
instance BuildTy37 : BuildTy Try.prog 37 [(0, 1), (1, 1)] := ⟨by kernel_rfl, fun _ => by kernel_rfl⟩
instance FieldTy37_0 : FieldTy Try.prog 37 0 0 := ⟨fun _ _ => by kernel_rfl⟩
instance FieldTy37_1 : FieldTy Try.prog 37 1 1 := ⟨fun _ _ => by kernel_rfl⟩
instance Ty38 : Ty Try.prog 38 true 2 32 (.agg #[.slice none 0 0, .int .u64 0]) := ⟨by kernel_rfl, by kernel_rfl⟩
instance StructTy38 : StructTy Try.prog 38 [36, 23] := ⟨by kernel_rfl, by kernel_rfl⟩
instance BuildTy38 : BuildTy Try.prog 38 [(0, 1), (1, 1)] := ⟨by kernel_rfl, fun _ => by kernel_rfl⟩
instance FieldTy38_0 : FieldTy Try.prog 38 0 0 := ⟨fun _ _ => by kernel_rfl⟩
instance FieldTy38_1 : FieldTy Try.prog 38 1 1 := ⟨fun _ _ => by kernel_rfl⟩
instance Ty45 : Ty Try.prog 45 true 3 32 (.agg #[.string ByteArray.empty, .int .i64 0, .int .i64 0]) := ⟨by kernel_rfl, by kernel_rfl⟩
instance StructTy45 : StructTy Try.prog 45 [9, 3, 3] := ⟨by kernel_rfl, by kernel_rfl⟩
instance BuildTy45 : BuildTy Try.prog 45 [(0, 1), (1, 1), (2, 1)] := ⟨by kernel_rfl, fun _ => by kernel_rfl⟩
instance FieldTy45_0 : FieldTy Try.prog 45 0 0 := ⟨fun _ _ => by kernel_rfl⟩
instance FieldTy45_1 : FieldTy Try.prog 45 1 1 := ⟨fun _ _ => by kernel_rfl⟩
instance FieldTy45_2 : FieldTy Try.prog 45 2 2 := ⟨fun _ _ => by kernel_rfl⟩
instance Ty46 : Ty Try.prog 46 true 3 32 (.agg #[.string ByteArray.empty, .int .i64 0, .int .i64 0]) := ⟨by kernel_rfl, by kernel_rfl⟩
instance StructTy46 : StructTy Try.prog 46 [9, 3, 3] := ⟨by kernel_rfl, by kernel_rfl⟩
instance BuildTy46 : BuildTy Try.prog 46 [(0, 1), (1, 1), (2, 1)] := ⟨by kernel_rfl, fun _ => by kernel_rfl⟩
instance EqTy46 : EqTy Try.prog 46 [(9, 0), (3, 1), (3, 2)] := ⟨by kernel_rfl, by kernel_rfl, by kernel_rfl, by kernel_rfl⟩
instance FieldTy46_0 : FieldTy Try.prog 46 0 0 := ⟨fun _ _ => by kernel_rfl⟩
instance FieldTy46_1 : FieldTy Try.prog 46 1 1 := ⟨fun _ _ => by kernel_rfl⟩
instance FieldTy46_2 : FieldTy Try.prog 46 2 2 := ⟨fun _ _ => by kernel_rfl⟩
instance Ty48 : Ty Try.prog 48 false 1 24 (.slice none 0 0) := ⟨by kernel_rfl, by kernel_rfl⟩
instance SliceTy48 : SliceTy Try.prog 48 5 := ⟨by kernel_rfl⟩
instance Ty50 : Ty Try.prog 50 false 1 24 (.slice none 0 0) := ⟨by kernel_rfl, by kernel_rfl⟩
instance SliceTy50 : SliceTy Try.prog 50 9 := ⟨by kernel_rfl⟩
instance Ty59 : Ty Try.prog 59 false 1 8 (.map none) := ⟨by kernel_rfl, by kernel_rfl⟩
instance MapTy59 : MapTy Try.prog 59 9 3 := ⟨by kernel_rfl⟩
instance Ty66 : Ty Try.prog 66 true 4 40 (.agg #[.pointer none, .pointer none, .pointer none, .string ByteArray.empty]) := ⟨by kernel_rfl, by kernel_rfl⟩
instance StructTy66 : StructTy Try.prog 66 [17, 17, 17, 9] := ⟨by kernel_rfl, by kernel_rfl⟩
instance BuildTy66 : BuildTy Try.prog 66 [(0, 1), (1, 1), (2, 1), (3, 1)] := ⟨by kernel_rfl, fun _ => by kernel_rfl⟩
instance FieldTy66_0 : FieldTy Try.prog 66 0 0 := ⟨fun _ _ => by kernel_rfl⟩
instance FieldTy66_1 : FieldTy Try.prog 66 1 1 := ⟨fun _ _ => by kernel_rfl⟩
instance FieldTy66_2 : FieldTy Try.prog 66 2 2 := ⟨fun _ _ => by kernel_rfl⟩
instance FieldTy66_3 : FieldTy Try.prog 66 3 3 := ⟨fun _ _ => by kernel_rfl⟩
instance Ty67 : Ty Try.prog 67 true 4 40 (.agg #[.pointer none, .pointer none, .pointer none, .string ByteArray.empty]) := ⟨by kernel_rfl, by kernel_rfl⟩
instance StructTy67 : StructTy Try.prog 67 [17, 17, 17, 9] := ⟨by kernel_rfl, by kernel_rfl⟩
instance BuildTy67 : BuildTy Try.prog 67 [(0, 1), (1, 1), (2, 1), (3, 1)] := ⟨by kernel_rfl, fun _ => by kernel_rfl⟩
instance FieldTy67_0 : FieldTy Try.prog 67 0 0 := ⟨fun _ _ => by kernel_rfl⟩
instance FieldTy67_1 : FieldTy Try.prog 67 1 1 := ⟨fun _ _ => by kernel_rfl⟩
instance FieldTy67_2 : FieldTy Try.prog 67 2 2 := ⟨fun _ _ => by kernel_rfl⟩
instance FieldTy67_3 : FieldTy Try.prog 67 3 3 := ⟨fun _ _ => by kernel_rfl⟩
instance Ty68 : Ty Try.prog 68 true 0 0 (.agg #[]) := ⟨by kernel_rfl, by kernel_rfl⟩
instance ArrayTy68 : ArrayTy Try.prog 68 0 16 := ⟨by kernel_rfl⟩
instance Ty69 : Ty Try.prog 69 true 0 0 (.agg #[]) := ⟨by kernel_rfl, by kernel_rfl⟩
instance StructTy69 : StructTy Try.prog 69 [68] := ⟨by kernel_rfl, by kernel_rfl⟩
instance BuildTy69 : BuildTy Try.prog 69 [(0, 0)] := ⟨by kernel_rfl, fun _ => by kernel_rfl⟩
instance Ty70 : Ty Try.prog 70 true 0 0 (.agg #[]) := ⟨by kernel_rfl, by kernel_rfl⟩
instance StructTy70 : StructTy Try.prog 70 [68] := ⟨by kernel_rfl, by kernel_rfl⟩
instance BuildTy70 : BuildTy Try.prog 70 [(0, 0)] := ⟨by kernel_rfl, fun _ => by kernel_rfl⟩
instance Ty72 : Ty Try.prog 72 false 1 4 (.int .u32 0) := ⟨by kernel_rfl, by kernel_rfl⟩
instance IntTy72 : IntTy Try.prog 72 .u32 := ⟨by kernel_rfl⟩
instance Ty73 : Ty Try.prog 73 false 1 1 (.int .u8 0) := ⟨by kernel_rfl, by kernel_rfl⟩
instance IntTy73 : IntTy Try.prog 73 .u8 := ⟨by kernel_rfl⟩
instance Ty74 : Ty Try.prog 74 false 1 1 (.int .u8 0) := ⟨by kernel_rfl, by kernel_rfl⟩
instance IntTy74 : IntTy Try.prog 74 .u8 := ⟨by kernel_rfl⟩
instance Ty76 : Ty Try.prog 76 false 1 8 (.pointer none) := ⟨by kernel_rfl, by kernel_rfl⟩
instance Ty77 : Ty Try.prog 77 false 1 4 (.int .i32 0) := ⟨by kernel_rfl, by kernel_rfl⟩
instance IntTy77 : IntTy Try.prog 77 .i32 := ⟨by kernel_rfl⟩
instance Ty78 : Ty Try.prog 78 false 1 4 (.int .i32 0) := ⟨by kernel_rfl, by kernel_rfl⟩
instance IntTy78 : IntTy Try.prog 78 .i32 := ⟨by kernel_rfl⟩
instance Ty79 : Ty Try.prog 79 true 11 48 (.agg #[.int .u64 0, .int .u64 0, .int .u32 0, .int .u8 0, .int .u8 0, .int .u8 0, .int .u8 0, .nilFunc, .pointer none, .int .i32 0, .int .i32 0]) := ⟨by kernel_rfl, by kernel_rfl⟩
instance StructTy79 : StructTy Try.prog 79 [12, 12, 72, 73, 5, 5, 74, 75, 76, 77, 78] := ⟨by kernel_rfl, by kernel_rfl⟩
instance BuildTy79 : BuildTy Try.prog 79 [(0, 1), (1, 1), (2, 1), (3, 1), (4, 1), (5, 1), (6, 1), (7, 1), (8, 1), (9, 1), (10, 1)] := ⟨by kernel_rfl, fun _ => by kernel_rfl⟩
instance FieldTy79_0 : FieldTy Try.prog 79 0 0 := ⟨fun _ _ => by kernel_rfl⟩
instance FieldTy79_1 : FieldTy Try.prog 79 1 1 := ⟨fun _ _ => by kernel_rfl⟩
instance FieldTy79_2 : FieldTy Try.prog 79 2 2 := ⟨fun _ _ => by kernel_rfl⟩
instance FieldTy79_3 : FieldTy Try.prog 79 3 3 := ⟨fun _ _ => by kernel_rfl⟩
instance FieldTy79_4 : FieldTy Try.prog 79 4 4 := ⟨fun _ _ => by kernel_rfl⟩
instance FieldTy79_5 : FieldTy Try.prog 79 5 5 := ⟨fun _ _ => by kernel_rfl⟩
instance FieldTy79_6 : FieldTy Try.prog 79 6 6 := ⟨fun _ _ => by kernel_rfl⟩
instance FieldTy79_7 : FieldTy Try.prog 79 7 7 := ⟨fun _ _ => by kernel_rfl⟩
instance FieldTy79_8 : FieldTy Try.prog 79 8 8 := ⟨fun _ _ => by kernel_rfl⟩
instance FieldTy79_9 : FieldTy Try.prog 79 9 9 := ⟨fun _ _ => by kernel_rfl⟩
instance FieldTy79_10 : FieldTy Try.prog 79 10 10 := ⟨fun _ _ => by kernel_rfl⟩
instance Ty80 : Ty Try.prog 80 true 11 48 (.agg #[.int .u64 0, .int .u64 0, .int .u32 0, .int .u8 0, .int .u8 0, .int .u8 0, .int .u8 0, .nilFunc, .pointer none, .int .i32 0, .int .i32 0]) := ⟨by kernel_rfl, by kernel_rfl⟩
instance StructTy80 : StructTy Try.prog 80 [12, 12, 72, 73, 5, 5, 74, 75, 76, 77, 78] := ⟨by kernel_rfl, by kernel_rfl⟩
instance BuildTy80 : BuildTy Try.prog 80 [(0, 1), (1, 1), (2, 1), (3, 1), (4, 1), (5, 1), (6, 1), (7, 1), (8, 1), (9, 1), (10, 1)] := ⟨by kernel_rfl, fun _ => by kernel_rfl⟩
instance FieldTy80_0 : FieldTy Try.prog 80 0 0 := ⟨fun _ _ => by kernel_rfl⟩
instance FieldTy80_1 : FieldTy Try.prog 80 1 1 := ⟨fun _ _ => by kernel_rfl⟩
instance FieldTy80_2 : FieldTy Try.prog 80 2 2 := ⟨fun _ _ => by kernel_rfl⟩
instance FieldTy80_3 : FieldTy Try.prog 80 3 3 := ⟨fun _ _ => by kernel_rfl⟩
instance FieldTy80_4 : FieldTy Try.prog 80 4 4 := ⟨fun _ _ => by kernel_rfl⟩
instance FieldTy80_5 : FieldTy Try.prog 80 5 5 := ⟨fun _ _ => by kernel_rfl⟩
instance FieldTy80_6 : FieldTy Try.prog 80 6 6 := ⟨fun _ _ => by kernel_rfl⟩
instance FieldTy80_7 : FieldTy Try.prog 80 7 7 := ⟨fun _ _ => by kernel_rfl⟩
instance FieldTy80_8 : FieldTy Try.prog 80 8 8 := ⟨fun _ _ => by kernel_rfl⟩
instance FieldTy80_9 : FieldTy Try.prog 80 9 9 := ⟨fun _ _ => by kernel_rfl⟩
instance FieldTy80_10 : FieldTy Try.prog 80 10 10 := ⟨fun _ _ => by kernel_rfl⟩
instance Elem2 : Elem Try.prog 2 1 8 := ⟨⟨_, _, Ty2, rfl⟩, by decide⟩
instance Elem3 : Elem Try.prog 3 1 8 := ⟨⟨_, _, Ty3, rfl⟩, by decide⟩
instance Elem4 : Elem Try.prog 4 1 1 := ⟨⟨_, _, Ty4, rfl⟩, by decide⟩
instance Elem5 : Elem Try.prog 5 1 1 := ⟨⟨_, _, Ty5, rfl⟩, by decide⟩
instance Elem6 : Elem Try.prog 6 1 1 := ⟨⟨_, _, Ty6, rfl⟩, by decide⟩
instance Elem7 : Elem Try.prog 7 4 24 := ⟨⟨_, _, Ty7, rfl⟩, by decide⟩
instance Elem8 : Elem Try.prog 8 4 24 := ⟨⟨_, _, Ty8, rfl⟩, by decide⟩
instance Elem9 : Elem Try.prog 9 1 16 := ⟨⟨_, _, Ty9, rfl⟩, by decide⟩
instance Elem10 : Elem Try.prog 10 1 16 := ⟨⟨_, _, Ty10, rfl⟩, by decide⟩
instance Elem11 : Elem Try.prog 11 1 16 := ⟨⟨_, _, Ty11, rfl⟩, by decide⟩
instance Elem12 : Elem Try.prog 12 1 8 := ⟨⟨_, _, Ty12, rfl⟩, by decide⟩
instance Elem13 : Elem Try.prog 13 2 24 := ⟨⟨_, _, Ty13, rfl⟩, by decide⟩
instance Elem14 : Elem Try.prog 14 2 24 := ⟨⟨_, _, Ty14, rfl⟩, by decide⟩
instance Elem15 : Elem Try.prog 15 1 8 := ⟨⟨_, _, Ty15, rfl⟩, by decide⟩
instance Elem16 : Elem Try.prog 16 1 8 := ⟨⟨_, _, Ty16, rfl⟩, by decide⟩
instance Elem17 : Elem Try.prog 17 1 8 := ⟨⟨_, _, Ty17, rfl⟩, by decide⟩
instance Elem18 : Elem Try.prog 18 1 8 := ⟨⟨_, _, Ty18, rfl⟩, by decide⟩
instance Elem19 : Elem Try.prog 19 1 8 := ⟨⟨_, _, Ty19, rfl⟩, by decide⟩
instance Elem21 : Elem Try.prog 21 1 4 := ⟨⟨_, _, Ty21, rfl⟩, by decide⟩
instance Elem22 : Elem Try.prog 22 1 8 := ⟨⟨_, _, Ty22, rfl⟩, by decide⟩
instance Elem23 : Elem Try.prog 23 1 8 := ⟨⟨_, _, Ty23, rfl⟩, by decide⟩
instance Elem24 : Elem Try.prog 24 6 56 := ⟨⟨_, _, Ty24, rfl⟩, by decide⟩
instance Elem25 : Elem Try.prog 25 6 56 := ⟨⟨_, _, Ty25, rfl⟩, by decide⟩
instance Elem30 : Elem Try.prog 30 1 24 := ⟨⟨_, _, Ty30, rfl⟩, by decide⟩
instance Elem31 : Elem Try.prog 31 1 24 := ⟨⟨_, _, Ty31, rfl⟩, by decide⟩
instance Elem33 : Elem Try.prog 33 1 8 := ⟨⟨_, _, Ty33, rfl⟩, by decide⟩
instance Elem36 : Elem Try.prog 36 1 24 := ⟨⟨_, _, Ty36, rfl⟩, by decide⟩
instance Elem37 : Elem Try.prog 37 2 32 := ⟨⟨_, _, Ty37, rfl⟩, by decide⟩
instance Elem38 : Elem Try.prog 38 2 32 := ⟨⟨_, _, Ty38, rfl⟩, by decide⟩
instance Elem45 : Elem Try.prog 45 3 32 := ⟨⟨_, _, Ty45, rfl⟩, by decide⟩
instance Elem46 : Elem Try.prog 46 3 32 := ⟨⟨_, _, Ty46, rfl⟩, by decide⟩
instance Elem48 : Elem Try.prog 48 1 24 := ⟨⟨_, _, Ty48, rfl⟩, by decide⟩
instance Elem50 : Elem Try.prog 50 1 24 := ⟨⟨_, _, Ty50, rfl⟩, by decide⟩
instance Elem59 : Elem Try.prog 59 1 8 := ⟨⟨_, _, Ty59, rfl⟩, by decide⟩
instance Elem66 : Elem Try.prog 66 4 40 := ⟨⟨_, _, Ty66, rfl⟩, by decide⟩
instance Elem67 : Elem Try.prog 67 4 40 := ⟨⟨_, _, Ty67, rfl⟩, by decide⟩
instance Elem72 : Elem Try.prog 72 1 4 := ⟨⟨_, _, Ty72, rfl⟩, by decide⟩
instance Elem73 : Elem Try.prog 73 1 1 := ⟨⟨_, _, Ty73, rfl⟩, by decide⟩
instance Elem74 : Elem Try.prog 74 1 1 := ⟨⟨_, _, Ty74, rfl⟩, by decide⟩
instance Elem76 : Elem Try.prog 76 1 8 := ⟨⟨_, _, Ty76, rfl⟩, by decide⟩
instance Elem77 : Elem Try.prog 77 1 4 := ⟨⟨_, _, Ty77, rfl⟩, by decide⟩
instance Elem78 : Elem Try.prog 78 1 4 := ⟨⟨_, _, Ty78, rfl⟩, by decide⟩
instance Elem79 : Elem Try.prog 79 11 48 := ⟨⟨_, _, Ty79, rfl⟩, by decide⟩
instance Elem80 : Elem Try.prog 80 11 48 := ⟨⟨_, _, Ty80, rfl⟩, by decide⟩
instance FnTy3 : FnTy Try.prog 3 := ⟨fun _ _ => by kernel_rfl⟩
instance FnTy4 : FnTy Try.prog 4 := ⟨fun _ _ => by kernel_rfl⟩
instance FnTy5 : FnTy Try.prog 5 := ⟨fun _ _ => by kernel_rfl⟩
instance FnTy6 : FnTy Try.prog 6 := ⟨fun _ _ => by kernel_rfl⟩
instance FnTy7 : FnTy Try.prog 7 := ⟨fun _ _ => by kernel_rfl⟩
instance FnTy8 : FnTy Try.prog 8 := ⟨fun _ _ => by kernel_rfl⟩
instance FnTy9 : FnTy Try.prog 9 := ⟨fun _ _ => by kernel_rfl⟩
instance FnTy10 : FnTy Try.prog 10 := ⟨fun _ _ => by kernel_rfl⟩
instance FnTy11 : FnTy Try.prog 11 := ⟨fun _ _ => by kernel_rfl⟩
instance FnTy12 : FnTy Try.prog 12 := ⟨fun _ _ => by kernel_rfl⟩
instance FnTy13 : FnTy Try.prog 13 := ⟨fun _ _ => by kernel_rfl⟩
instance FnTy14 : FnTy Try.prog 14 := ⟨fun _ _ => by kernel_rfl⟩
instance FnTy15 : FnTy Try.prog 15 := ⟨fun _ _ => by kernel_rfl⟩
instance FnTy16 : FnTy Try.prog 16 := ⟨fun _ _ => by kernel_rfl⟩
instance FnTy17 : FnTy Try.prog 17 := ⟨fun _ _ => by kernel_rfl⟩
instance FnTy18 : FnTy Try.prog 18 := ⟨fun _ _ => by kernel_rfl⟩
instance FnTy19 : FnTy Try.prog 19 := ⟨fun _ _ => by kernel_rfl⟩
instance FnTy20 : FnTy Try.prog 20 := ⟨fun _ _ => by kernel_rfl⟩
instance FnTy21 : FnTy Try.prog 21 := ⟨fun _ _ => by kernel_rfl⟩
instance FnTy22 : FnTy Try.prog 22 := ⟨fun _ _ => by kernel_rfl⟩
instance FnTy23 : FnTy Try.prog 23 := ⟨fun _ _ => by kernel_rfl⟩
instance FnTy24 : FnTy Try.prog 24 := ⟨fun _ _ => by kernel_rfl⟩
instance FnTy25 : FnTy Try.prog 25 := ⟨fun _ _ => by kernel_rfl⟩
instance FnTy26 : FnTy Try.prog 26 := ⟨fun _ _ => by kernel_rfl⟩
instance FnTy27 : FnTy Try.prog 27 := ⟨fun _ _ => by kernel_rfl⟩
instance FnTy28 : FnTy Try.prog 28 := ⟨fun _ _ => by kernel_rfl⟩
instance FnTy29 : FnTy Try.prog 29 := ⟨fun _ _ => by kernel_rfl⟩
instance FnTy30 : FnTy Try.prog 30 := ⟨fun _ _ => by kernel_rfl⟩
instance FnTy31 : FnTy Try.prog 31 := ⟨fun _ _ => by kernel_rfl⟩
instance FnTy32 : FnTy Try.prog 32 := ⟨fun _ _ => by kernel_rfl⟩
instance FnTy33 : FnTy Try.prog 33 := ⟨fun _ _ => by kernel_rfl⟩
instance FnTy34 : FnTy Try.prog 34 := ⟨fun _ _ => by kernel_rfl⟩
instance FnTy35 : FnTy Try.prog 35 := ⟨fun _ _ => by kernel_rfl⟩
instance FnTy36 : FnTy Try.prog 36 := ⟨fun _ _ => by kernel_rfl⟩
theorem mixed : Try.prog.follows .mixedOrders = true := by kernel_rfl
end Go.Proofs.Ytobifgpnfcnejaa
