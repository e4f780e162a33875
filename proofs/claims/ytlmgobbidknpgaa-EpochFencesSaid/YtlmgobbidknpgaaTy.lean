/- The program's tables as instances. Printed by a program of ours (wip/tools/gen_ty.py). -/
import Derived.Test.YtlmgobbidknpgaaChecked
import Derived.Test.YtlmgobbidknpgaaC12
namespace Go.Proofs.Ytlmgobbidknpgaa
open Go Go.Sym
instance Ty2 : Ty Try.prog 2 false 1 8 (.int .i64 0) := ⟨by kernel_rfl, by kernel_rfl⟩
instance IntTy2 : IntTy Try.prog 2 .i64 := ⟨by kernel_rfl⟩
instance Ty3 : Ty Try.prog 3 false 1 8 (.int .i64 0) := ⟨by kernel_rfl, by kernel_rfl⟩
instance IntTy3 : IntTy Try.prog 3 .i64 := ⟨by kernel_rfl⟩
instance Ty4 : Ty Try.prog 4 false 1 1 (.bool false) := ⟨by kernel_rfl, by kernel_rfl⟩
instance BoolTy4 : BoolTy Try.prog 4 := ⟨by kernel_rfl⟩
instance Ty5 : Ty Try.prog 5 false 1 1 (.int .u8 0) := ⟨by kernel_rfl, by kernel_rfl⟩
instance IntTy5 : IntTy Try.prog 5 .u8 := ⟨by kernel_rfl⟩
instance Ty6 : Ty Try.prog 6 false 1 1 (.int .u8 0) := ⟨by kernel_rfl, by kernel_rfl⟩
instance IntTy6 : IntTy Try.prog 6 .u8 := ⟨by kernel_rfl⟩
instance Ty7 : Ty Try.prog 7 true 4 24 (.agg #[.int .i64 0, .int .i64 0, .bool false, .int .u8 0]) := ⟨by kernel_rfl, by kernel_rfl⟩
instance StructTy7 : StructTy Try.prog 7 [2, 3, 4, 6] := ⟨by kernel_rfl, by kernel_rfl⟩
instance BuildTy7 : BuildTy Try.prog 7 [(0, 1), (1, 1), (2, 1), (3, 1)] := ⟨by kernel_rfl, fun _ => by kernel_rfl⟩
instance FieldTy7_0 : FieldTy Try.prog 7 0 0 := ⟨fun _ _ => by kernel_rfl⟩
instance FieldTy7_1 : FieldTy Try.prog 7 1 1 := ⟨fun _ _ => by kernel_rfl⟩
instance FieldTy7_2 : FieldTy Try.prog 7 2 2 := ⟨fun _ _ => by kernel_rfl⟩
instance FieldTy7_3 : FieldTy Try.prog 7 3 3 := ⟨fun _ _ => by kernel_rfl⟩
instance Ty8 : Ty Try.prog 8 true 4 24 (.agg #[.int .i64 0, .int .i64 0, .bool false, .int .u8 0]) := ⟨by kernel_rfl, by kernel_rfl⟩
instance StructTy8 : StructTy Try.prog 8 [2, 3, 4, 6] := ⟨by kernel_rfl, by kernel_rfl⟩
instance BuildTy8 : BuildTy Try.prog 8 [(0, 1), (1, 1), (2, 1), (3, 1)] := ⟨by kernel_rfl, fun _ => by kernel_rfl⟩
instance FieldTy8_0 : FieldTy Try.prog 8 0 0 := ⟨fun _ _ => by kernel_rfl⟩
instance FieldTy8_1 : FieldTy Try.prog 8 1 1 := ⟨fun _ _ => by kernel_rfl⟩
instance FieldTy8_2 : FieldTy Try.prog 8 2 2 := ⟨fun _ _ => by kernel_rfl⟩
instance FieldTy8_3 : FieldTy Try.prog 8 3 3 := ⟨fun _ _ => by kernel_rfl⟩
instance Ty9 : Ty Try.prog 9 false 1 16 (.string ByteArray.empty) := ⟨by kernel_rfl, by kernel_rfl⟩
instance StrTy9 : StrTy Try.prog 9 := ⟨by kernel_rfl⟩
instance Ty10 : Ty Try.prog 10 false 1 16 (.string ByteArray.empty) := ⟨by kernel_rfl, by kernel_rfl⟩
instance StrTy10 : StrTy Try.prog 10 := ⟨by kernel_rfl⟩
instance Ty11 : Ty Try.prog 11 false 1 16 (.string ByteArray.empty) := ⟨by kernel_rfl, by kernel_rfl⟩
instance StrTy11 : StrTy Try.prog 11 := ⟨by kernel_rfl⟩
instance Ty12 : Ty Try.prog 12 false 1 8 (.int .u64 0) := ⟨by kernel_rfl, by kernel_rfl⟩
instance IntTy12 : IntTy Try.prog 12 .u64 := ⟨by kernel_rfl⟩
instance Ty13 : Ty Try.prog 13 true 2 24 (.agg #[.string ByteArray.empty, .int .u64 0]) := ⟨by kernel_rfl, by kernel_rfl⟩
instance StructTy13 : StructTy Try.prog 13 [9, 12] := ⟨by kernel_rfl, by kernel_rfl⟩
instance BuildTy13 : BuildTy Try.prog 13 [(0, 1), (1, 1)] := ⟨by kernel_rfl, fun _ => by kernel_rfl⟩
instance FieldTy13_0 : FieldTy Try.prog 13 0 0 := ⟨fun _ _ => by kernel_rfl⟩
instance FieldTy13_1 : FieldTy Try.prog 13 1 1 := ⟨fun _ _ => by kernel_rfl⟩
instance Ty14 : Ty Try.prog 14 true 2 24 (.agg #[.string ByteArray.empty, .int .u64 0]) := ⟨by kernel_rfl, by kernel_rfl⟩
instance StructTy14 : StructTy Try.prog 14 [9, 12] := ⟨by kernel_rfl, by kernel_rfl⟩
instance BuildTy14 : BuildTy Try.prog 14 [(0, 1), (1, 1)] := ⟨by kernel_rfl, fun _ => by kernel_rfl⟩
instance FieldTy14_0 : FieldTy Try.prog 14 0 0 := ⟨fun _ _ => by kernel_rfl⟩
instance FieldTy14_1 : FieldTy Try.prog 14 1 1 := ⟨fun _ _ => by kernel_rfl⟩
instance Ty15 : Ty Try.prog 15 false 1 8 (.pointer none) := ⟨by kernel_rfl, by kernel_rfl⟩
instance Ty16 : Ty Try.prog 16 false 1 8 (.pointer none) := ⟨by kernel_rfl, by kernel_rfl⟩
instance Ty17 : Ty Try.prog 17 false 1 8 (.pointer none) := ⟨by kernel_rfl, by kernel_rfl⟩
instance Ty18 : Ty Try.prog 18 true 1 8 (.agg #[.pointer none]) := ⟨by kernel_rfl, by kernel_rfl⟩
instance StructTy18 : StructTy Try.prog 18 [17] := ⟨by kernel_rfl, by kernel_rfl⟩
instance BuildTy18 : BuildTy Try.prog 18 [(0, 1)] := ⟨by kernel_rfl, fun _ => by kernel_rfl⟩
instance FieldTy18_0 : FieldTy Try.prog 18 0 0 := ⟨fun _ _ => by kernel_rfl⟩
instance Ty19 : Ty Try.prog 19 true 1 8 (.agg #[.pointer none]) := ⟨by kernel_rfl, by kernel_rfl⟩
instance StructTy19 : StructTy Try.prog 19 [17] := ⟨by kernel_rfl, by kernel_rfl⟩
instance BuildTy19 : BuildTy Try.prog 19 [(0, 1)] := ⟨by kernel_rfl, fun _ => by kernel_rfl⟩
instance FieldTy19_0 : FieldTy Try.prog 19 0 0 := ⟨fun _ _ => by kernel_rfl⟩
instance Ty21 : Ty Try.prog 21 false 1 4 (.int .i32 0) := ⟨by kernel_rfl, by kernel_rfl⟩
instance IntTy21 : IntTy Try.prog 21 .i32 := ⟨by kernel_rfl⟩
instance Ty22 : Ty Try.prog 22 false 1 24 (.slice none 0 0) := ⟨by kernel_rfl, by kernel_rfl⟩
instance SliceTy22 : SliceTy Try.prog 22 35 := ⟨by kernel_rfl⟩
instance Ty23 : Ty Try.prog 23 false 1 24 (.slice none 0 0) := ⟨by kernel_rfl, by kernel_rfl⟩
instance SliceTy23 : SliceTy Try.prog 23 3 := ⟨by kernel_rfl⟩
instance Ty24 : Ty Try.prog 24 true 5 80 (.agg #[.int .i64 0, .string ByteArray.empty, .int .i64 0, .slice none 0 0, .slice none 0 0]) := ⟨by kernel_rfl, by kernel_rfl⟩
instance StructTy24 : StructTy Try.prog 24 [3, 9, 3, 22, 23] := ⟨by kernel_rfl, by kernel_rfl⟩
instance BuildTy24 : BuildTy Try.prog 24 [(0, 1), (1, 1), (2, 1), (3, 1), (4, 1)] := ⟨by kernel_rfl, fun _ => by kernel_rfl⟩
instance FieldTy24_0 : FieldTy Try.prog 24 0 0 := ⟨fun _ _ => by kernel_rfl⟩
instance FieldTy24_1 : FieldTy Try.prog 24 1 1 := ⟨fun _ _ => by kernel_rfl⟩
instance FieldTy24_2 : FieldTy Try.prog 24 2 2 := ⟨fun _ _ => by kernel_rfl⟩
instance FieldTy24_3 : FieldTy Try.prog 24 3 3 := ⟨fun _ _ => by kernel_rfl⟩
instance FieldTy24_4 : FieldTy Try.prog 24 4 4 := ⟨fun _ _ => by kernel_rfl⟩
instance Ty25 : Ty Try.prog 25 true 5 80 (.agg #[.int .i64 0, .string ByteArray.empty, .int .i64 0, .slice none 0 0, .slice none 0 0]) := ⟨by kernel_rfl, by kernel_rfl⟩
instance StructTy25 : StructTy Try.prog 25 [3, 9, 3, 22, 23] := ⟨by kernel_rfl, by kernel_rfl⟩
instance BuildTy25 : BuildTy Try.prog 25 [(0, 1), (1, 1), (2, 1), (3, 1), (4, 1)] := ⟨by kernel_rfl, fun _ => by kernel_rfl⟩
instance FieldTy25_0 : FieldTy Try.prog 25 0 0 := ⟨fun _ _ => by kernel_rfl⟩
instance FieldTy25_1 : FieldTy Try.prog 25 1 1 := ⟨fun _ _ => by kernel_rfl⟩
instance FieldTy25_2 : FieldTy Try.prog 25 2 2 := ⟨fun _ _ => by kernel_rfl⟩
instance FieldTy25_3 : FieldTy Try.prog 25 3 3 := ⟨fun _ _ => by kernel_rfl⟩
instance FieldTy25_4 : FieldTy Try.prog 25 4 4 := ⟨fun _ _ => by kernel_rfl⟩
instance Ty28 : Ty Try.prog 28 false 1 8 (.int .i64 0) := ⟨by kernel_rfl, by kernel_rfl⟩
instance IntTy28 : IntTy Try.prog 28 .i64 := ⟨by kernel_rfl⟩
instance Ty35 : Ty Try.prog 35 false 1 24 (.slice none 0 0) := ⟨by kernel_rfl, by kernel_rfl⟩
instance SliceTy35 : SliceTy Try.prog 35 5 := ⟨by kernel_rfl⟩
instance Ty36 : Ty Try.prog 36 true 3 40 (.agg #[.int .i64 0, .int .i64 0, .slice none 0 0]) := ⟨by kernel_rfl, by kernel_rfl⟩
instance StructTy36 : StructTy Try.prog 36 [3, 3, 35] := ⟨by kernel_rfl, by kernel_rfl⟩
instance BuildTy36 : BuildTy Try.prog 36 [(0, 1), (1, 1), (2, 1)] := ⟨by kernel_rfl, fun _ => by kernel_rfl⟩
instance FieldTy36_0 : FieldTy Try.prog 36 0 0 := ⟨fun _ _ => by kernel_rfl⟩
instance FieldTy36_1 : FieldTy Try.prog 36 1 1 := ⟨fun _ _ => by kernel_rfl⟩
instance FieldTy36_2 : FieldTy Try.prog 36 2 2 := ⟨fun _ _ => by kernel_rfl⟩
instance Ty37 : Ty Try.prog 37 true 3 40 (.agg #[.int .i64 0, .int .i64 0, .slice none 0 0]) := ⟨by kernel_rfl, by kernel_rfl⟩
instance StructTy37 : StructTy Try.prog 37 [3, 3, 35] := ⟨by kernel_rfl, by kernel_rfl⟩
instance BuildTy37 : BuildTy Try.prog 37 [(0, 1), (1, 1), (2, 1)] := ⟨by kernel_rfl, fun _ => by kernel_rfl⟩
instance FieldTy37_0 : FieldTy Try.prog 37 0 0 := ⟨fun _ _ => by kernel_rfl⟩
instance FieldTy37_1 : FieldTy Try.prog 37 1 1 := ⟨fun _ _ => by kernel_rfl⟩
instance FieldTy37_2 : FieldTy Try.prog 37 2 2 := ⟨fun _ _ => by kernel_rfl⟩
instance Ty44 : Ty Try.prog 44 false 1 24 (.slice none 0 0) := ⟨by kernel_rfl, by kernel_rfl⟩
instance SliceTy44 : SliceTy Try.prog 44 51 := ⟨by kernel_rfl⟩
instance Ty46 : Ty Try.prog 46 true 2 16 (.agg #[.int .i64 0, .int .i64 0]) := ⟨by kernel_rfl, by kernel_rfl⟩
instance StructTy46 : StructTy Try.prog 46 [3, 3] := ⟨by kernel_rfl, by kernel_rfl⟩
instance BuildTy46 : BuildTy Try.prog 46 [(0, 1), (1, 1)] := ⟨by kernel_rfl, fun _ => by kernel_rfl⟩
instance FieldTy46_0 : FieldTy Try.prog 46 0 0 := ⟨fun _ _ => by kernel_rfl⟩
instance FieldTy46_1 : FieldTy Try.prog 46 1 1 := ⟨fun _ _ => by kernel_rfl⟩
instance Ty47 : Ty Try.prog 47 true 2 16 (.agg #[.int .i64 0, .int .i64 0]) := ⟨by kernel_rfl, by kernel_rfl⟩
instance StructTy47 : StructTy Try.prog 47 [3, 3] := ⟨by kernel_rfl, by kernel_rfl⟩
instance BuildTy47 : BuildTy Try.prog 47 [(0, 1), (1, 1)] := ⟨by kernel_rfl, fun _ => by kernel_rfl⟩
instance FieldTy47_0 : FieldTy Try.prog 47 0 0 := ⟨fun _ _ => by kernel_rfl⟩
instance FieldTy47_1 : FieldTy Try.prog 47 1 1 := ⟨fun _ _ => by kernel_rfl⟩
instance Ty48 : Ty Try.prog 48 true 8 64 (.agg #[.int .i64 0, .int .i64 0, .int .i64 0, .int .i64 0, .int .i64 0, .int .i64 0, .int .i64 0, .int .i64 0]) := ⟨by kernel_rfl, by kernel_rfl⟩
instance ArrayTy48 : ArrayTy Try.prog 48 4 47 := ⟨by kernel_rfl⟩
instance ArrTs48 : ArrTs Try.prog 48 [47, 47, 47, 47] := ⟨⟨_, _, ArrayTy48.und, rfl⟩, by kernel_rfl⟩
instance Ty49 : Ty Try.prog 49 false 1 24 (.slice none 0 0) := ⟨by kernel_rfl, by kernel_rfl⟩
instance SliceTy49 : SliceTy Try.prog 49 9 := ⟨by kernel_rfl⟩
instance Ty50 : Ty Try.prog 50 true 4 32 (.agg #[.int .i64 0, .int .i64 0, .int .i64 0, .int .u8 0]) := ⟨by kernel_rfl, by kernel_rfl⟩
instance StructTy50 : StructTy Try.prog 50 [3, 3, 3, 5] := ⟨by kernel_rfl, by kernel_rfl⟩
instance BuildTy50 : BuildTy Try.prog 50 [(0, 1), (1, 1), (2, 1), (3, 1)] := ⟨by kernel_rfl, fun _ => by kernel_rfl⟩
instance FieldTy50_0 : FieldTy Try.prog 50 0 0 := ⟨fun _ _ => by kernel_rfl⟩
instance FieldTy50_1 : FieldTy Try.prog 50 1 1 := ⟨fun _ _ => by kernel_rfl⟩
instance FieldTy50_2 : FieldTy Try.prog 50 2 2 := ⟨fun _ _ => by kernel_rfl⟩
instance FieldTy50_3 : FieldTy Try.prog 50 3 3 := ⟨fun _ _ => by kernel_rfl⟩
instance Ty51 : Ty Try.prog 51 true 4 32 (.agg #[.int .i64 0, .int .i64 0, .int .i64 0, .int .u8 0]) := ⟨by kernel_rfl, by kernel_rfl⟩
instance StructTy51 : StructTy Try.prog 51 [3, 3, 3, 5] := ⟨by kernel_rfl, by kernel_rfl⟩
instance BuildTy51 : BuildTy Try.prog 51 [(0, 1), (1, 1), (2, 1), (3, 1)] := ⟨by kernel_rfl, fun _ => by kernel_rfl⟩
instance FieldTy51_0 : FieldTy Try.prog 51 0 0 := ⟨fun _ _ => by kernel_rfl⟩
instance FieldTy51_1 : FieldTy Try.prog 51 1 1 := ⟨fun _ _ => by kernel_rfl⟩
instance FieldTy51_2 : FieldTy Try.prog 51 2 2 := ⟨fun _ _ => by kernel_rfl⟩
instance FieldTy51_3 : FieldTy Try.prog 51 3 3 := ⟨fun _ _ => by kernel_rfl⟩
instance Ty55 : Ty Try.prog 55 true 2 32 (.agg #[.string ByteArray.empty, .string ByteArray.empty]) := ⟨by kernel_rfl, by kernel_rfl⟩
instance ArrayTy55 : ArrayTy Try.prog 55 2 9 := ⟨by kernel_rfl⟩
instance ArrTs55 : ArrTs Try.prog 55 [9, 9] := ⟨⟨_, _, ArrayTy55.und, rfl⟩, by kernel_rfl⟩
instance Ty56 : Ty Try.prog 56 true 3 24 (.agg #[.int .i64 0, .int .i64 0, .int .i64 0]) := ⟨by kernel_rfl, by kernel_rfl⟩
instance ArrayTy56 : ArrayTy Try.prog 56 3 3 := ⟨by kernel_rfl⟩
instance ArrTs56 : ArrTs Try.prog 56 [3, 3, 3] := ⟨⟨_, _, ArrayTy56.und, rfl⟩, by kernel_rfl⟩
instance Ty65 : Ty Try.prog 65 true 4 40 (.agg #[.pointer none, .pointer none, .pointer none, .string ByteArray.empty]) := ⟨by kernel_rfl, by kernel_rfl⟩
instance StructTy65 : StructTy Try.prog 65 [17, 17, 17, 9] := ⟨by kernel_rfl, by kernel_rfl⟩
instance BuildTy65 : BuildTy Try.prog 65 [(0, 1), (1, 1), (2, 1), (3, 1)] := ⟨by kernel_rfl, fun _ => by kernel_rfl⟩
instance FieldTy65_0 : FieldTy Try.prog 65 0 0 := ⟨fun _ _ => by kernel_rfl⟩
instance FieldTy65_1 : FieldTy Try.prog 65 1 1 := ⟨fun _ _ => by kernel_rfl⟩
instance FieldTy65_2 : FieldTy Try.prog 65 2 2 := ⟨fun _ _ => by kernel_rfl⟩
instance FieldTy65_3 : FieldTy Try.prog 65 3 3 := ⟨fun _ _ => by kernel_rfl⟩
instance Ty66 : Ty Try.prog 66 true 4 40 (.agg #[.pointer none, .pointer none, .pointer none, .string ByteArray.empty]) := ⟨by kernel_rfl, by kernel_rfl⟩
instance StructTy66 : StructTy Try.prog 66 [17, 17, 17, 9] := ⟨by kernel_rfl, by kernel_rfl⟩
instance BuildTy66 : BuildTy Try.prog 66 [(0, 1), (1, 1), (2, 1), (3, 1)] := ⟨by kernel_rfl, fun _ => by kernel_rfl⟩
instance FieldTy66_0 : FieldTy Try.prog 66 0 0 := ⟨fun _ _ => by kernel_rfl⟩
instance FieldTy66_1 : FieldTy Try.prog 66 1 1 := ⟨fun _ _ => by kernel_rfl⟩
instance FieldTy66_2 : FieldTy Try.prog 66 2 2 := ⟨fun _ _ => by kernel_rfl⟩
instance FieldTy66_3 : FieldTy Try.prog 66 3 3 := ⟨fun _ _ => by kernel_rfl⟩
instance Ty67 : Ty Try.prog 67 true 0 0 (.agg #[]) := ⟨by kernel_rfl, by kernel_rfl⟩
instance ArrayTy67 : ArrayTy Try.prog 67 0 16 := ⟨by kernel_rfl⟩
instance Ty68 : Ty Try.prog 68 true 0 0 (.agg #[]) := ⟨by kernel_rfl, by kernel_rfl⟩
instance StructTy68 : StructTy Try.prog 68 [67] := ⟨by kernel_rfl, by kernel_rfl⟩
instance BuildTy68 : BuildTy Try.prog 68 [(0, 0)] := ⟨by kernel_rfl, fun _ => by kernel_rfl⟩
instance Ty69 : Ty Try.prog 69 true 0 0 (.agg #[]) := ⟨by kernel_rfl, by kernel_rfl⟩
instance StructTy69 : StructTy Try.prog 69 [67] := ⟨by kernel_rfl, by kernel_rfl⟩
instance BuildTy69 : BuildTy Try.prog 69 [(0, 0)] := ⟨by kernel_rfl, fun _ => by kernel_rfl⟩
instance Ty71 : Ty Try.prog 71 false 1 4 (.int .u32 0) := ⟨by kernel_rfl, by kernel_rfl⟩
instance IntTy71 : IntTy Try.prog 71 .u32 := ⟨by kernel_rfl⟩
instance Ty72 : Ty Try.prog 72 false 1 1 (.int .u8 0) := ⟨by kernel_rfl, by kernel_rfl⟩
instance IntTy72 : IntTy Try.prog 72 .u8 := ⟨by kernel_rfl⟩
instance Ty73 : Ty Try.prog 73 false 1 1 (.int .u8 0) := ⟨by kernel_rfl, by kernel_rfl⟩
instance IntTy73 : IntTy Try.prog 73 .u8 := ⟨by kernel_rfl⟩
instance Ty75 : Ty Try.prog 75 false 1 8 (.pointer none) := ⟨by kernel_rfl, by kernel_rfl⟩
instance Ty76 : Ty Try.prog 76 false 1 4 (.int .i32 0) := ⟨by kernel_rfl, by kernel_rfl⟩
instance IntTy76 : IntTy Try.prog 76 .i32 := ⟨by kernel_rfl⟩
instance Ty77 : Ty Try.prog 77 false 1 4 (.int .i32 0) := ⟨by kernel_rfl, by kernel_rfl⟩
instance IntTy77 : IntTy Try.prog 77 .i32 := ⟨by kernel_rfl⟩
instance Ty78 : Ty Try.prog 78 true 11 48 (.agg #[.int .u64 0, .int .u64 0, .int .u32 0, .int .u8 0, .int .u8 0, .int .u8 0, .int .u8 0, .nilFunc, .pointer none, .int .i32 0, .int .i32 0]) := ⟨by kernel_rfl, by kernel_rfl⟩
instance StructTy78 : StructTy Try.prog 78 [12, 12, 71, 72, 5, 5, 73, 74, 75, 76, 77] := ⟨by kernel_rfl, by kernel_rfl⟩
instance BuildTy78 : BuildTy Try.prog 78 [(0, 1), (1, 1), (2, 1), (3, 1), (4, 1), (5, 1), (6, 1), (7, 1), (8, 1), (9, 1), (10, 1)] := ⟨by kernel_rfl, fun _ => by kernel_rfl⟩
instance FieldTy78_0 : FieldTy Try.prog 78 0 0 := ⟨fun _ _ => by kernel_rfl⟩
instance FieldTy78_1 : FieldTy Try.prog 78 1 1 := ⟨fun _ _ => by kernel_rfl⟩
instance FieldTy78_2 : FieldTy Try.prog 78 2 2 := ⟨fun _ _ => by kernel_rfl⟩
instance FieldTy78_3 : FieldTy Try.prog 78 3 3 := ⟨fun _ _ => by kernel_rfl⟩
instance FieldTy78_4 : FieldTy Try.prog 78 4 4 := ⟨fun _ _ => by kernel_rfl⟩
instance FieldTy78_5 : FieldTy Try.prog 78 5 5 := ⟨fun _ _ => by kernel_rfl⟩
instance FieldTy78_6 : FieldTy Try.prog 78 6 6 := ⟨fun _ _ => by kernel_rfl⟩
instance FieldTy78_7 : FieldTy Try.prog 78 7 7 := ⟨fun _ _ => by kernel_rfl⟩
instance FieldTy78_8 : FieldTy Try.prog 78 8 8 := ⟨fun _ _ => by kernel_rfl⟩
instance FieldTy78_9 : FieldTy Try.prog 78 9 9 := ⟨fun _ _ => by kernel_rfl⟩
instance FieldTy78_10 : FieldTy Try.prog 78 10 10 := ⟨fun _ _ => by kernel_rfl⟩
instance Ty79 : Ty Try.prog 79 true 11 48 (.agg #[.int .u64 0, .int .u64 0, .int .u32 0, .int .u8 0, .int .u8 0, .int .u8 0, .int .u8 0, .nilFunc, .pointer none, .int .i32 0, .int .i32 0]) := ⟨by kernel_rfl, by kernel_rfl⟩
instance StructTy79 : StructTy Try.prog 79 [12, 12, 71, 72, 5, 5, 73, 74, 75, 76, 77] := ⟨by kernel_rfl, by kernel_rfl⟩
instance BuildTy79 : BuildTy Try.prog 79 [(0, 1), (1, 1), (2, 1), (3, 1), (4, 1), (5, 1), (6, 1), (7, 1), (8, 1), (9, 1), (10, 1)] := ⟨by kernel_rfl, fun _ => by kernel_rfl⟩
instance FieldTy79_0 : FieldTy Try.prog 79 0 0 := ⟨fun _ _ => by kernel_rfl⟩
instance FieldTy79_1 : FieldTy Try.prog 79 1 1 := ⟨fun _ _ => by kernel_rfl⟩
instance FieldTy79_2 : FieldTy Try.prog 79 2 2 := ⟨fun _ _ => by kernel_rfl⟩
instance FieldTy79_3 : FieldTy Try.prog 79 3 3 := ⟨fun _ _ => by kernel_rfl⟩
instance FieldTy79_4 : FieldTy Try.prog 79 4 4 := ⟨fun _ _ => by kernel_rfl⟩
instance FieldTy79_5 : FieldTy Try.prog 79 5 5 := ⟨fun _ _ => by kernel_rfl⟩
instance FieldTy79_6 : FieldTy Try.prog 79 6 6 := ⟨fun _ _ => by kernel_rfl⟩
instance FieldTy79_7 : FieldTy Try.prog 79 7 7 := ⟨fun _ _ => by kernel_rfl⟩
instance FieldTy79_8 : FieldTy Try.prog 79 8 8 := ⟨fun _ _ => by kernel_rfl⟩
instance FieldTy79_9 : FieldTy Try.prog 79 9 9 := ⟨fun _ _ => by kernel_rfl⟩
instance FieldTy79_10 : FieldTy Try.prog 79 10 10 := ⟨fun _ _ => by kernel_rfl⟩
instance Elem2 : Elem Try.prog 2 1 8 := ⟨⟨_, _, Ty2, rfl⟩, by decide⟩
instance Elem3 : Elem Try.prog 3 1 8 := ⟨⟨_, _, Ty3, rfl⟩, by decide⟩
instance Elem4 : Elem Try.prog 4 1 1 := ⟨⟨_, _, Ty4, rfl⟩, by decide⟩
instance Elem5 : Elem Try.prog 5 1 1 := ⟨⟨_, _, Ty5, rfl⟩, by decide⟩
instance Elem6 : Elem Try.prog 6 1 1 := ⟨⟨_, _, Ty6, rfl⟩, by decide⟩
instance Elem7 : Elem Try.prog 7 4 24 := ⟨⟨_, _, Ty7, rfl⟩, by decide⟩
instance Elem8 : Elem Try.prog 8 4 24 := ⟨⟨_, _, Ty8, rfl⟩, by decide⟩
instance Elem9 : Elem Try.prog 9 1 16 := ⟨⟨_, _, Ty9, rfl⟩, by decide⟩
instance Elem10 : Elem Try.prog 10 1 16 := ⟨⟨_, _, Ty10, rfl⟩, by decide⟩
instance Elem11 : Elem Try.prog 11 1 16 := ⟨⟨_, _, Ty11, rfl⟩, by decide⟩
instance Elem12 : Elem Try.prog 12 1 8 := ⟨⟨_, _, Ty12, rfl⟩, by decide⟩
instance Elem13 : Elem Try.prog 13 2 24 := ⟨⟨_, _, Ty13, rfl⟩, by decide⟩
instance Elem14 : Elem Try.prog 14 2 24 := ⟨⟨_, _, Ty14, rfl⟩, by decide⟩
instance Elem15 : Elem Try.prog 15 1 8 := ⟨⟨_, _, Ty15, rfl⟩, by decide⟩
instance Elem16 : Elem Try.prog 16 1 8 := ⟨⟨_, _, Ty16, rfl⟩, by decide⟩
instance Elem17 : Elem Try.prog 17 1 8 := ⟨⟨_, _, Ty17, rfl⟩, by decide⟩
instance Elem18 : Elem Try.prog 18 1 8 := ⟨⟨_, _, Ty18, rfl⟩, by decide⟩
instance Elem19 : Elem Try.prog 19 1 8 := ⟨⟨_, _, Ty19, rfl⟩, by decide⟩
instance Elem21 : Elem Try.prog 21 1 4 := ⟨⟨_, _, Ty21, rfl⟩, by decide⟩
instance Elem22 : Elem Try.prog 22 1 24 := ⟨⟨_, _, Ty22, rfl⟩, by decide⟩
instance Elem23 : Elem Try.prog 23 1 24 := ⟨⟨_, _, Ty23, rfl⟩, by decide⟩
instance Elem24 : Elem Try.prog 24 5 80 := ⟨⟨_, _, Ty24, rfl⟩, by decide⟩
instance Elem25 : Elem Try.prog 25 5 80 := ⟨⟨_, _, Ty25, rfl⟩, by decide⟩
instance Elem28 : Elem Try.prog 28 1 8 := ⟨⟨_, _, Ty28, rfl⟩, by decide⟩
instance Elem35 : Elem Try.prog 35 1 24 := ⟨⟨_, _, Ty35, rfl⟩, by decide⟩
instance Elem36 : Elem Try.prog 36 3 40 := ⟨⟨_, _, Ty36, rfl⟩, by decide⟩
instance Elem37 : Elem Try.prog 37 3 40 := ⟨⟨_, _, Ty37, rfl⟩, by decide⟩
instance Elem44 : Elem Try.prog 44 1 24 := ⟨⟨_, _, Ty44, rfl⟩, by decide⟩
instance Elem46 : Elem Try.prog 46 2 16 := ⟨⟨_, _, Ty46, rfl⟩, by decide⟩
instance Elem47 : Elem Try.prog 47 2 16 := ⟨⟨_, _, Ty47, rfl⟩, by decide⟩
instance Elem48 : Elem Try.prog 48 8 64 := ⟨⟨_, _, Ty48, rfl⟩, by decide⟩
instance Elem49 : Elem Try.prog 49 1 24 := ⟨⟨_, _, Ty49, rfl⟩, by decide⟩
instance Elem50 : Elem Try.prog 50 4 32 := ⟨⟨_, _, Ty50, rfl⟩, by decide⟩
instance Elem51 : Elem Try.prog 51 4 32 := ⟨⟨_, _, Ty51, rfl⟩, by decide⟩
instance Elem55 : Elem Try.prog 55 2 32 := ⟨⟨_, _, Ty55, rfl⟩, by decide⟩
instance Elem56 : Elem Try.prog 56 3 24 := ⟨⟨_, _, Ty56, rfl⟩, by decide⟩
instance Elem65 : Elem Try.prog 65 4 40 := ⟨⟨_, _, Ty65, rfl⟩, by decide⟩
instance Elem66 : Elem Try.prog 66 4 40 := ⟨⟨_, _, Ty66, rfl⟩, by decide⟩
instance Elem71 : Elem Try.prog 71 1 4 := ⟨⟨_, _, Ty71, rfl⟩, by decide⟩
instance Elem72 : Elem Try.prog 72 1 1 := ⟨⟨_, _, Ty72, rfl⟩, by decide⟩
instance Elem73 : Elem Try.prog 73 1 1 := ⟨⟨_, _, Ty73, rfl⟩, by decide⟩
instance Elem75 : Elem Try.prog 75 1 8 := ⟨⟨_, _, Ty75, rfl⟩, by decide⟩
instance Elem76 : Elem Try.prog 76 1 4 := ⟨⟨_, _, Ty76, rfl⟩, by decide⟩
instance Elem77 : Elem Try.prog 77 1 4 := ⟨⟨_, _, Ty77, rfl⟩, by decide⟩
instance Elem78 : Elem Try.prog 78 11 48 := ⟨⟨_, _, Ty78, rfl⟩, by decide⟩
instance Elem79 : Elem Try.prog 79 11 48 := ⟨⟨_, _, Ty79, rfl⟩, by decide⟩
instance FnTy3 : FnTy Try.prog 3 := ⟨fun _ _ => by kernel_rfl⟩
instance FnTy4 : FnTy Try.prog 4 := ⟨fun _ _ => by kernel_rfl⟩
instance FnTy5 : FnTy Try.prog 5 := ⟨fun _ _ => by kernel_rfl⟩
instance FnTy6 : FnTy Try.prog 6 := ⟨fun _ _ => by kernel_rfl⟩
instance FnTy7 : FnTy Try.prog 7 := ⟨fun _ _ => by kernel_rfl⟩
instance FnTy8 : FnTy Try.prog 8 := ⟨fun _ _ => by kernel_rfl⟩
instance FnTy9 : FnTy Try.prog 9 := ⟨fun _ _ => by kernel_rfl⟩
instance FnTy10 : FnTy Try.prog 10 := ⟨fun _ _ => by kernel_rfl⟩
instance FnTy11 : FnTy Try.prog 11 := ⟨fun _ _ => by kernel_rfl⟩
instance FnTy12 : FnTy Try.prog 12 := ⟨fun _ _ => by kernel_rfl⟩
instance FnTy13 : FnTy Try.prog 13 := ⟨fun _ _ => by kernel_rfl⟩
instance FnTy14 : FnTy Try.prog 14 := ⟨fun _ _ => by kernel_rfl⟩
instance FnTy15 : FnTy Try.prog 15 := ⟨fun _ _ => by kernel_rfl⟩
instance FnTy16 : FnTy Try.prog 16 := ⟨fun _ _ => by kernel_rfl⟩
instance FnTy17 : FnTy Try.prog 17 := ⟨fun _ _ => by kernel_rfl⟩
instance FnTy18 : FnTy Try.prog 18 := ⟨fun _ _ => by kernel_rfl⟩
instance FnTy19 : FnTy Try.prog 19 := ⟨fun _ _ => by kernel_rfl⟩
instance FnTy20 : FnTy Try.prog 20 := ⟨fun _ _ => by kernel_rfl⟩
instance FnTy21 : FnTy Try.prog 21 := ⟨fun _ _ => by kernel_rfl⟩
instance FnTy22 : FnTy Try.prog 22 := ⟨fun _ _ => by kernel_rfl⟩
instance FnTy23 : FnTy Try.prog 23 := ⟨fun _ _ => by kernel_rfl⟩
instance FnTy24 : FnTy Try.prog 24 := ⟨fun _ _ => by kernel_rfl⟩
instance FnTy25 : FnTy Try.prog 25 := ⟨fun _ _ => by kernel_rfl⟩
instance FnTy26 : FnTy Try.prog 26 := ⟨fun _ _ => by kernel_rfl⟩
theorem mixed : Try.prog.follows .mixedOrders = true := by kernel_rfl
end Go.Proofs.Ytlmgobbidknpgaa
