/- The program's tables as instances. Printed by a program of ours (wip/tools/gen_ty.py). -/
import Derived.Test.YtlhgjjbkbeeagaaChecked
import Derived.Test.YtlhgjjbkbeeagaaC18
namespace Go.Proofs.Ytlhgjjbkbeeagaa
open Go Go.Sym
instance Ty2 : Ty Try.prog 2 false 1 8 (.int .i64 0) := ⟨by kernel_rfl, by kernel_rfl⟩
instance IntTy2 : IntTy Try.prog 2 .i64 := ⟨by kernel_rfl⟩
instance Ty3 : Ty Try.prog 3 false 1 8 (.int .i64 0) := ⟨by kernel_rfl, by kernel_rfl⟩
instance IntTy3 : IntTy Try.prog 3 .i64 := ⟨by kernel_rfl⟩
instance Ty4 : Ty Try.prog 4 false 1 1 (.bool false) := ⟨by kernel_rfl, by kernel_rfl⟩
instance BoolTy4 : BoolTy Try.prog 4 := ⟨by kernel_rfl⟩
instance Ty5 : Ty Try.prog 5 false 1 1 (.int .u8 0) := ⟨by kernel_rfl, by kernel_rfl⟩
instance IntTy5 : IntTy Try.prog 5 .u8 := ⟨by kernel_rfl⟩
instance Ty6 : Ty Try.prog 6 false 1 1 (.int .u8 0) := ⟨by kernel_rfl, by kernel_rfl⟩
instance IntTy6 : IntTy Try.prog 6 .u8 := ⟨by kernel_rfl⟩
instance Ty7 : Ty Try.prog 7 true 4 24 (.agg #[.int .i64 0, .int .i64 0, .bool false, .int .u8 0]) := ⟨by kernel_rfl, by kernel_rfl⟩
instance StructTy7 : StructTy Try.prog 7 [2, 3, 4, 6] := ⟨by kernel_rfl, by kernel_rfl⟩
instance BuildTy7 : BuildTy Try.prog 7 [(0, 1), (1, 1), (2, 1), (3, 1)] := ⟨by kernel_rfl, fun _ => by kernel_rfl⟩
instance FieldTy7_0 : FieldTy Try.prog 7 0 0 := ⟨fun _ _ => by kernel_rfl⟩
instance FieldTy7_1 : FieldTy Try.prog 7 1 1 := ⟨fun _ _ => by kernel_rfl⟩
instance FieldTy7_2 : FieldTy Try.prog 7 2 2 := ⟨fun _ _ => by kernel_rfl⟩
instance FieldTy7_3 : FieldTy Try.prog 7 3 3 := ⟨fun _ _ => by kernel_rfl⟩
instance Ty8 : Ty Try.prog 8 true 4 24 (.agg #[.int .i64 0, .int .i64 0, .bool false, .int .u8 0]) := ⟨by kernel_rfl, by kernel_rfl⟩
instance StructTy8 : StructTy Try.prog 8 [2, 3, 4, 6] := ⟨by kernel_rfl, by kernel_rfl⟩
instance BuildTy8 : BuildTy Try.prog 8 [(0, 1), (1, 1), (2, 1), (3, 1)] := ⟨by kernel_rfl, fun _ => by kernel_rfl⟩
instance FieldTy8_0 : FieldTy Try.prog 8 0 0 := ⟨fun _ _ => by kernel_rfl⟩
instance FieldTy8_1 : FieldTy Try.prog 8 1 1 := ⟨fun _ _ => by kernel_rfl⟩
instance FieldTy8_2 : FieldTy Try.prog 8 2 2 := ⟨fun _ _ => by kernel_rfl⟩
instance FieldTy8_3 : FieldTy Try.prog 8 3 3 := ⟨fun _ _ => by kernel_rfl⟩
instance Ty9 : Ty Try.prog 9 false 1 16 (.string ByteArray.empty) := ⟨by kernel_rfl, by kernel_rfl⟩
instance StrTy9 : StrTy Try.prog 9 := ⟨by kernel_rfl⟩
instance Ty10 : Ty Try.prog 10 false 1 16 (.string ByteArray.empty) := ⟨by kernel_rfl, by kernel_rfl⟩
instance StrTy10 : StrTy Try.prog 10 := ⟨by kernel_rfl⟩
instance Ty11 : Ty Try.prog 11 false 1 16 (.string ByteArray.empty) := ⟨by kernel_rfl, by kernel_rfl⟩
instance StrTy11 : StrTy Try.prog 11 := ⟨by kernel_rfl⟩
instance Ty12 : Ty Try.prog 12 false 1 8 (.int .u64 0) := ⟨by kernel_rfl, by kernel_rfl⟩
instance IntTy12 : IntTy Try.prog 12 .u64 := ⟨by kernel_rfl⟩
instance Ty13 : Ty Try.prog 13 true 2 24 (.agg #[.string ByteArray.empty, .int .u64 0]) := ⟨by kernel_rfl, by kernel_rfl⟩
instance StructTy13 : StructTy Try.prog 13 [9, 12] := ⟨by kernel_rfl, by kernel_rfl⟩
instance BuildTy13 : BuildTy Try.prog 13 [(0, 1), (1, 1)] := ⟨by kernel_rfl, fun _ => by kernel_rfl⟩
instance FieldTy13_0 : FieldTy Try.prog 13 0 0 := ⟨fun _ _ => by kernel_rfl⟩
instance FieldTy13_1 : FieldTy Try.prog 13 1 1 := ⟨fun _ _ => by kernel_rfl⟩
instance Ty14 : Ty Try.prog 14 true 2 24 (.agg #[.string ByteArray.empty, .int .u64 0]) := ⟨by kernel_rfl, by kernel_rfl⟩
instance StructTy14 : StructTy Try.prog 14 [9, 12] := ⟨by kernel_rfl, by kernel_rfl⟩
instance BuildTy14 : BuildTy Try.prog 14 [(0, 1), (1, 1)] := ⟨by kernel_rfl, fun _ => by kernel_rfl⟩
instance FieldTy14_0 : FieldTy Try.prog 14 0 0 := ⟨fun _ _ => by kernel_rfl⟩
instance FieldTy14_1 : FieldTy Try.prog 14 1 1 := ⟨fun _ _ => by kernel_rfl⟩
instance Ty15 : Ty Try.prog 15 false 1 8 (.pointer none) := ⟨by kernel_rfl, by kernel_rfl⟩
instance Ty16 : Ty Try.prog 16 false 1 8 (.pointer none) := ⟨by kernel_rfl, by kernel_rfl⟩
instance Ty17 : Ty Try.prog 17 false 1 8 (.pointer none) := ⟨by kernel_rfl, by kernel_rfl⟩
instance Ty18 : Ty Try.prog 18 true 1 8 (.agg #[.pointer none]) := ⟨by kernel_rfl, by kernel_rfl⟩
instance StructTy18 : StructTy Try.prog 18 [17] := ⟨by kernel_rfl, by kernel_rfl⟩
instance BuildTy18 : BuildTy Try.prog 18 [(0, 1)] := ⟨by kernel_rfl, fun _ => by kernel_rfl⟩
instance FieldTy18_0 : FieldTy Try.prog 18 0 0 := ⟨fun _ _ => by kernel_rfl⟩
instance Ty19 : Ty Try.prog 19 true 1 8 (.agg #[.pointer none]) := ⟨by kernel_rfl, by kernel_rfl⟩
instance StructTy19 : StructTy Try.prog 19 [17] := ⟨by kernel_rfl, by kernel_rfl⟩
instance BuildTy19 : BuildTy Try.prog 19 [(0, 1)] := ⟨by kernel_rfl, fun _ => by kernel_rfl⟩
instance FieldTy19_0 : FieldTy Try.prog 19 0 0 := ⟨fun _ _ => by kernel_rfl⟩
instance Ty21 : Ty Try.prog 21 false 1 4 (.int .i32 0) := ⟨by kernel_rfl, by kernel_rfl⟩
instance IntTy21 : IntTy Try.prog 21 .i32 := ⟨by kernel_rfl⟩
instance Ty22 : Ty Try.prog 22 false 1 24 (.slice none 0 0) := ⟨by kernel_rfl, by kernel_rfl⟩
instance SliceTy22 : SliceTy Try.prog 22 50 := ⟨by kernel_rfl⟩
instance Ty23 : Ty Try.prog 23 true 2 32 (.agg #[.string ByteArray.empty, .string ByteArray.empty]) := ⟨by kernel_rfl, by kernel_rfl⟩
instance StructTy23 : StructTy Try.prog 23 [9, 9] := ⟨by kernel_rfl, by kernel_rfl⟩
instance BuildTy23 : BuildTy Try.prog 23 [(0, 1), (1, 1)] := ⟨by kernel_rfl, fun _ => by kernel_rfl⟩
instance FieldTy23_0 : FieldTy Try.prog 23 0 0 := ⟨fun _ _ => by kernel_rfl⟩
instance FieldTy23_1 : FieldTy Try.prog 23 1 1 := ⟨fun _ _ => by kernel_rfl⟩
instance Ty24 : Ty Try.prog 24 true 2 32 (.agg #[.string ByteArray.empty, .string ByteArray.empty]) := ⟨by kernel_rfl, by kernel_rfl⟩
instance StructTy24 : StructTy Try.prog 24 [9, 9] := ⟨by kernel_rfl, by kernel_rfl⟩
instance BuildTy24 : BuildTy Try.prog 24 [(0, 1), (1, 1)] := ⟨by kernel_rfl, fun _ => by kernel_rfl⟩
instance EqTy24 : EqTy Try.prog 24 [(9, 0), (9, 1)] := ⟨by kernel_rfl, by kernel_rfl, by kernel_rfl, by kernel_rfl⟩
instance FieldTy24_0 : FieldTy Try.prog 24 0 0 := ⟨fun _ _ => by kernel_rfl⟩
instance FieldTy24_1 : FieldTy Try.prog 24 1 1 := ⟨fun _ _ => by kernel_rfl⟩
instance Ty25 : Ty Try.prog 25 true 2 16 (.agg #[.int .i64 0, .int .i64 0]) := ⟨by kernel_rfl, by kernel_rfl⟩
instance ArrayTy25 : ArrayTy Try.prog 25 2 3 := ⟨by kernel_rfl⟩
instance ArrTs25 : ArrTs Try.prog 25 [3, 3] := ⟨⟨_, _, ArrayTy25.und, rfl⟩, by kernel_rfl⟩
instance BuildArr25 : BuildArr Try.prog 25 [(0, 1), (1, 1)] := ⟨_, _, _, _, _, _, ArrayTy25.und, Ty3, by decide⟩
instance Ty28 : Ty Try.prog 28 false 1 8 (.int .i64 0) := ⟨by kernel_rfl, by kernel_rfl⟩
instance IntTy28 : IntTy Try.prog 28 .i64 := ⟨by kernel_rfl⟩
instance Ty37 : Ty Try.prog 37 true 3 32 (.agg #[.int .i64 0, .int .i64 0, .string ByteArray.empty]) := ⟨by kernel_rfl, by kernel_rfl⟩
instance StructTy37 : StructTy Try.prog 37 [3, 3, 9] := ⟨by kernel_rfl, by kernel_rfl⟩
instance BuildTy37 : BuildTy Try.prog 37 [(0, 1), (1, 1), (2, 1)] := ⟨by kernel_rfl, fun _ => by kernel_rfl⟩
instance FieldTy37_0 : FieldTy Try.prog 37 0 0 := ⟨fun _ _ => by kernel_rfl⟩
instance FieldTy37_1 : FieldTy Try.prog 37 1 1 := ⟨fun _ _ => by kernel_rfl⟩
instance FieldTy37_2 : FieldTy Try.prog 37 2 2 := ⟨fun _ _ => by kernel_rfl⟩
instance Ty38 : Ty Try.prog 38 true 3 32 (.agg #[.int .i64 0, .int .i64 0, .string ByteArray.empty]) := ⟨by kernel_rfl, by kernel_rfl⟩
instance StructTy38 : StructTy Try.prog 38 [3, 3, 9] := ⟨by kernel_rfl, by kernel_rfl⟩
instance BuildTy38 : BuildTy Try.prog 38 [(0, 1), (1, 1), (2, 1)] := ⟨by kernel_rfl, fun _ => by kernel_rfl⟩
instance EqTy38 : EqTy Try.prog 38 [(3, 0), (3, 1), (9, 2)] := ⟨by kernel_rfl, by kernel_rfl, by kernel_rfl, by kernel_rfl⟩
instance FieldTy38_0 : FieldTy Try.prog 38 0 0 := ⟨fun _ _ => by kernel_rfl⟩
instance FieldTy38_1 : FieldTy Try.prog 38 1 1 := ⟨fun _ _ => by kernel_rfl⟩
instance FieldTy38_2 : FieldTy Try.prog 38 2 2 := ⟨fun _ _ => by kernel_rfl⟩
instance Ty44 : Ty Try.prog 44 true 3 24 (.agg #[.int .i64 0, .int .i64 0, .int .i64 0]) := ⟨by kernel_rfl, by kernel_rfl⟩
instance ArrayTy44 : ArrayTy Try.prog 44 3 3 := ⟨by kernel_rfl⟩
instance ArrTs44 : ArrTs Try.prog 44 [3, 3, 3] := ⟨⟨_, _, ArrayTy44.und, rfl⟩, by kernel_rfl⟩
instance BuildArr44 : BuildArr Try.prog 44 [(0, 1), (1, 1), (2, 1)] := ⟨_, _, _, _, _, _, ArrayTy44.und, Ty3, by decide⟩
instance Ty49 : Ty Try.prog 49 true 6 72 (.agg #[.string ByteArray.empty, .string ByteArray.empty, .int .i64 0, .int .i64 0, .string ByteArray.empty, .bool false]) := ⟨by kernel_rfl, by kernel_rfl⟩
instance StructTy49 : StructTy Try.prog 49 [24, 3, 3, 9, 4] := ⟨by kernel_rfl, by kernel_rfl⟩
instance BuildTy49 : BuildTy Try.prog 49 [(0, 2), (2, 1), (3, 1), (4, 1), (5, 1)] := ⟨by kernel_rfl, fun _ => by kernel_rfl⟩
instance FieldTy49_0 : FieldTy Try.prog 49 0 0 := ⟨fun _ _ => by kernel_rfl⟩
instance FieldTy49_1 : FieldTy Try.prog 49 1 2 := ⟨fun _ _ => by kernel_rfl⟩
instance FieldTy49_2 : FieldTy Try.prog 49 2 3 := ⟨fun _ _ => by kernel_rfl⟩
instance FieldTy49_3 : FieldTy Try.prog 49 3 4 := ⟨fun _ _ => by kernel_rfl⟩
instance FieldTy49_4 : FieldTy Try.prog 49 4 5 := ⟨fun _ _ => by kernel_rfl⟩
instance Ty50 : Ty Try.prog 50 true 6 72 (.agg #[.string ByteArray.empty, .string ByteArray.empty, .int .i64 0, .int .i64 0, .string ByteArray.empty, .bool false]) := ⟨by kernel_rfl, by kernel_rfl⟩
instance StructTy50 : StructTy Try.prog 50 [24, 3, 3, 9, 4] := ⟨by kernel_rfl, by kernel_rfl⟩
instance BuildTy50 : BuildTy Try.prog 50 [(0, 2), (2, 1), (3, 1), (4, 1), (5, 1)] := ⟨by kernel_rfl, fun _ => by kernel_rfl⟩
instance EqTy50 : EqTy Try.prog 50 [(24, 0), (3, 2), (3, 3), (9, 4), (4, 5)] := ⟨by kernel_rfl, by kernel_rfl, by kernel_rfl, by kernel_rfl⟩
instance FieldTy50_0 : FieldTy Try.prog 50 0 0 := ⟨fun _ _ => by kernel_rfl⟩
instance FieldTy50_1 : FieldTy Try.prog 50 1 2 := ⟨fun _ _ => by kernel_rfl⟩
instance FieldTy50_2 : FieldTy Try.prog 50 2 3 := ⟨fun _ _ => by kernel_rfl⟩
instance FieldTy50_3 : FieldTy Try.prog 50 3 4 := ⟨fun _ _ => by kernel_rfl⟩
instance FieldTy50_4 : FieldTy Try.prog 50 4 5 := ⟨fun _ _ => by kernel_rfl⟩
instance Ty54 : Ty Try.prog 54 false 1 24 (.slice none 0 0) := ⟨by kernel_rfl, by kernel_rfl⟩
instance SliceTy54 : SliceTy Try.prog 54 56 := ⟨by kernel_rfl⟩
instance Ty55 : Ty Try.prog 55 false 1 2 (.int .u16 0) := ⟨by kernel_rfl, by kernel_rfl⟩
instance IntTy55 : IntTy Try.prog 55 .u16 := ⟨by kernel_rfl⟩
instance Ty56 : Ty Try.prog 56 true 2 4 (.agg #[.int .u16 0, .int .u16 0]) := ⟨by kernel_rfl, by kernel_rfl⟩
instance ArrayTy56 : ArrayTy Try.prog 56 2 55 := ⟨by kernel_rfl⟩
instance ArrTs56 : ArrTs Try.prog 56 [55, 55] := ⟨⟨_, _, ArrayTy56.und, rfl⟩, by kernel_rfl⟩
instance BuildArr56 : BuildArr Try.prog 56 [(0, 1), (1, 1)] := ⟨_, _, _, _, _, _, ArrayTy56.und, Ty55, by decide⟩
instance Ty58 : Ty Try.prog 58 false 1 24 (.slice none 0 0) := ⟨by kernel_rfl, by kernel_rfl⟩
instance SliceTy58 : SliceTy Try.prog 58 5 := ⟨by kernel_rfl⟩
instance Ty68 : Ty Try.prog 68 true 4 40 (.agg #[.pointer none, .pointer none, .pointer none, .string ByteArray.empty]) := ⟨by kernel_rfl, by kernel_rfl⟩
instance StructTy68 : StructTy Try.prog 68 [17, 17, 17, 9] := ⟨by kernel_rfl, by kernel_rfl⟩
instance BuildTy68 : BuildTy Try.prog 68 [(0, 1), (1, 1), (2, 1), (3, 1)] := ⟨by kernel_rfl, fun _ => by kernel_rfl⟩
instance FieldTy68_0 : FieldTy Try.prog 68 0 0 := ⟨fun _ _ => by kernel_rfl⟩
instance FieldTy68_1 : FieldTy Try.prog 68 1 1 := ⟨fun _ _ => by kernel_rfl⟩
instance FieldTy68_2 : FieldTy Try.prog 68 2 2 := ⟨fun _ _ => by kernel_rfl⟩
instance FieldTy68_3 : FieldTy Try.prog 68 3 3 := ⟨fun _ _ => by kernel_rfl⟩
instance Ty69 : Ty Try.prog 69 true 4 40 (.agg #[.pointer none, .pointer none, .pointer none, .string ByteArray.empty]) := ⟨by kernel_rfl, by kernel_rfl⟩
instance StructTy69 : StructTy Try.prog 69 [17, 17, 17, 9] := ⟨by kernel_rfl, by kernel_rfl⟩
instance BuildTy69 : BuildTy Try.prog 69 [(0, 1), (1, 1), (2, 1), (3, 1)] := ⟨by kernel_rfl, fun _ => by kernel_rfl⟩
instance FieldTy69_0 : FieldTy Try.prog 69 0 0 := ⟨fun _ _ => by kernel_rfl⟩
instance FieldTy69_1 : FieldTy Try.prog 69 1 1 := ⟨fun _ _ => by kernel_rfl⟩
instance FieldTy69_2 : FieldTy Try.prog 69 2 2 := ⟨fun _ _ => by kernel_rfl⟩
instance FieldTy69_3 : FieldTy Try.prog 69 3 3 := ⟨fun _ _ => by kernel_rfl⟩
instance Ty70 : Ty Try.prog 70 true 0 0 (.agg #[]) := ⟨by kernel_rfl, by kernel_rfl⟩
instance ArrayTy70 : ArrayTy Try.prog 70 0 16 := ⟨by kernel_rfl⟩
instance Ty71 : Ty Try.prog 71 true 0 0 (.agg #[]) := ⟨by kernel_rfl, by kernel_rfl⟩
instance StructTy71 : StructTy Try.prog 71 [70] := ⟨by kernel_rfl, by kernel_rfl⟩
instance BuildTy71 : BuildTy Try.prog 71 [(0, 0)] := ⟨by kernel_rfl, fun _ => by kernel_rfl⟩
instance Ty72 : Ty Try.prog 72 true 0 0 (.agg #[]) := ⟨by kernel_rfl, by kernel_rfl⟩
instance StructTy72 : StructTy Try.prog 72 [70] := ⟨by kernel_rfl, by kernel_rfl⟩
instance BuildTy72 : BuildTy Try.prog 72 [(0, 0)] := ⟨by kernel_rfl, fun _ => by kernel_rfl⟩
instance Ty74 : Ty Try.prog 74 false 1 4 (.int .u32 0) := ⟨by kernel_rfl, by kernel_rfl⟩
instance IntTy74 : IntTy Try.prog 74 .u32 := ⟨by kernel_rfl⟩
instance Ty75 : Ty Try.prog 75 false 1 1 (.int .u8 0) := ⟨by kernel_rfl, by kernel_rfl⟩
instance IntTy75 : IntTy Try.prog 75 .u8 := ⟨by kernel_rfl⟩
instance Ty76 : Ty Try.prog 76 false 1 1 (.int .u8 0) := ⟨by kernel_rfl, by kernel_rfl⟩
instance IntTy76 : IntTy Try.prog 76 .u8 := ⟨by kernel_rfl⟩
instance Ty78 : Ty Try.prog 78 false 1 8 (.pointer none) := ⟨by kernel_rfl, by kernel_rfl⟩
instance Ty79 : Ty Try.prog 79 false 1 4 (.int .i32 0) := ⟨by kernel_rfl, by kernel_rfl⟩
instance IntTy79 : IntTy Try.prog 79 .i32 := ⟨by kernel_rfl⟩
instance Ty80 : Ty Try.prog 80 false 1 4 (.int .i32 0) := ⟨by kernel_rfl, by kernel_rfl⟩
instance IntTy80 : IntTy Try.prog 80 .i32 := ⟨by kernel_rfl⟩
instance Ty81 : Ty Try.prog 81 true 11 48 (.agg #[.int .u64 0, .int .u64 0, .int .u32 0, .int .u8 0, .int .u8 0, .int .u8 0, .int .u8 0, .nilFunc, .pointer none, .int .i32 0, .int .i32 0]) := ⟨by kernel_rfl, by kernel_rfl⟩
instance StructTy81 : StructTy Try.prog 81 [12, 12, 74, 75, 5, 5, 76, 77, 78, 79, 80] := ⟨by kernel_rfl, by kernel_rfl⟩
instance BuildTy81 : BuildTy Try.prog 81 [(0, 1), (1, 1), (2, 1), (3, 1), (4, 1), (5, 1), (6, 1), (7, 1), (8, 1), (9, 1), (10, 1)] := ⟨by kernel_rfl, fun _ => by kernel_rfl⟩
instance FieldTy81_0 : FieldTy Try.prog 81 0 0 := ⟨fun _ _ => by kernel_rfl⟩
instance FieldTy81_1 : FieldTy Try.prog 81 1 1 := ⟨fun _ _ => by kernel_rfl⟩
instance FieldTy81_2 : FieldTy Try.prog 81 2 2 := ⟨fun _ _ => by kernel_rfl⟩
instance FieldTy81_3 : FieldTy Try.prog 81 3 3 := ⟨fun _ _ => by kernel_rfl⟩
instance FieldTy81_4 : FieldTy Try.prog 81 4 4 := ⟨fun _ _ => by kernel_rfl⟩
instance FieldTy81_5 : FieldTy Try.prog 81 5 5 := ⟨fun _ _ => by kernel_rfl⟩
instance FieldTy81_6 : FieldTy Try.prog 81 6 6 := ⟨fun _ _ => by kernel_rfl⟩
instance FieldTy81_7 : FieldTy Try.prog 81 7 7 := ⟨fun _ _ => by kernel_rfl⟩
instance FieldTy81_8 : FieldTy Try.prog 81 8 8 := ⟨fun _ _ => by kernel_rfl⟩
instance FieldTy81_9 : FieldTy Try.prog 81 9 9 := ⟨fun _ _ => by kernel_rfl⟩
instance FieldTy81_10 : FieldTy Try.prog 81 10 10 := ⟨fun _ _ => by kernel_rfl⟩
instance Ty82 : Ty Try.prog 82 true 11 48 (.agg #[.int .u64 0, .int .u64 0, .int .u32 0, .int .u8 0, .int .u8 0, .int .u8 0, .int .u8 0, .nilFunc, .pointer none, .int .i32 0, .int .i32 0]) := ⟨by kernel_rfl, by kernel_rfl⟩
instance StructTy82 : StructTy Try.prog 82 [12, 12, 74, 75, 5, 5, 76, 77, 78, 79, 80] := ⟨by kernel_rfl, by kernel_rfl⟩
instance BuildTy82 : BuildTy Try.prog 82 [(0, 1), (1, 1), (2, 1), (3, 1), (4, 1), (5, 1), (6, 1), (7, 1), (8, 1), (9, 1), (10, 1)] := ⟨by kernel_rfl, fun _ => by kernel_rfl⟩
instance FieldTy82_0 : FieldTy Try.prog 82 0 0 := ⟨fun _ _ => by kernel_rfl⟩
instance FieldTy82_1 : FieldTy Try.prog 82 1 1 := ⟨fun _ _ => by kernel_rfl⟩
instance FieldTy82_2 : FieldTy Try.prog 82 2 2 := ⟨fun _ _ => by kernel_rfl⟩
instance FieldTy82_3 : FieldTy Try.prog 82 3 3 := ⟨fun _ _ => by kernel_rfl⟩
instance FieldTy82_4 : FieldTy Try.prog 82 4 4 := ⟨fun _ _ => by kernel_rfl⟩
instance FieldTy82_5 : FieldTy Try.prog 82 5 5 := ⟨fun _ _ => by kernel_rfl⟩
instance FieldTy82_6 : FieldTy Try.prog 82 6 6 := ⟨fun _ _ => by kernel_rfl⟩
instance FieldTy82_7 : FieldTy Try.prog 82 7 7 := ⟨fun _ _ => by kernel_rfl⟩
instance FieldTy82_8 : FieldTy Try.prog 82 8 8 := ⟨fun _ _ => by kernel_rfl⟩
instance FieldTy82_9 : FieldTy Try.prog 82 9 9 := ⟨fun _ _ => by kernel_rfl⟩
instance FieldTy82_10 : FieldTy Try.prog 82 10 10 := ⟨fun _ _ => by kernel_rfl⟩
instance Elem2 : Elem Try.prog 2 1 8 := ⟨⟨_, _, Ty2, rfl⟩, by decide⟩
instance Elem3 : Elem Try.prog 3 1 8 := ⟨⟨_, _, Ty3, rfl⟩, by decide⟩
instance Elem4 : Elem Try.prog 4 1 1 := ⟨⟨_, _, Ty4, rfl⟩, by decide⟩
instance Elem5 : Elem Try.prog 5 1 1 := ⟨⟨_, _, Ty5, rfl⟩, by decide⟩
instance Elem6 : Elem Try.prog 6 1 1 := ⟨⟨_, _, Ty6, rfl⟩, by decide⟩
instance Elem7 : Elem Try.prog 7 4 24 := ⟨⟨_, _, Ty7, rfl⟩, by decide⟩
instance Elem8 : Elem Try.prog 8 4 24 := ⟨⟨_, _, Ty8, rfl⟩, by decide⟩
instance Elem9 : Elem Try.prog 9 1 16 := ⟨⟨_, _, Ty9, rfl⟩, by decide⟩
instance Elem10 : Elem Try.prog 10 1 16 := ⟨⟨_, _, Ty10, rfl⟩, by decide⟩
instance Elem11 : Elem Try.prog 11 1 16 := ⟨⟨_, _, Ty11, rfl⟩, by decide⟩
instance Elem12 : Elem Try.prog 12 1 8 := ⟨⟨_, _, Ty12, rfl⟩, by decide⟩
instance Elem13 : Elem Try.prog 13 2 24 := ⟨⟨_, _, Ty13, rfl⟩, by decide⟩
instance Elem14 : Elem Try.prog 14 2 24 := ⟨⟨_, _, Ty14, rfl⟩, by decide⟩
instance Elem15 : Elem Try.prog 15 1 8 := ⟨⟨_, _, Ty15, rfl⟩, by decide⟩
instance Elem16 : Elem Try.prog 16 1 8 := ⟨⟨_, _, Ty16, rfl⟩, by decide⟩
instance Elem17 : Elem Try.prog 17 1 8 := ⟨⟨_, _, Ty17, rfl⟩, by decide⟩
instance Elem18 : Elem Try.prog 18 1 8 := ⟨⟨_, _, Ty18, rfl⟩, by decide⟩
instance Elem19 : Elem Try.prog 19 1 8 := ⟨⟨_, _, Ty19, rfl⟩, by decide⟩
instance Elem21 : Elem Try.prog 21 1 4 := ⟨⟨_, _, Ty21, rfl⟩, by decide⟩
instance Elem22 : Elem Try.prog 22 1 24 := ⟨⟨_, _, Ty22, rfl⟩, by decide⟩
instance Elem23 : Elem Try.prog 23 2 32 := ⟨⟨_, _, Ty23, rfl⟩, by decide⟩
instance Elem24 : Elem Try.prog 24 2 32 := ⟨⟨_, _, Ty24, rfl⟩, by decide⟩
instance Elem25 : Elem Try.prog 25 2 16 := ⟨⟨_, _, Ty25, rfl⟩, by decide⟩
instance Elem28 : Elem Try.prog 28 1 8 := ⟨⟨_, _, Ty28, rfl⟩, by decide⟩
instance Elem37 : Elem Try.prog 37 3 32 := ⟨⟨_, _, Ty37, rfl⟩, by decide⟩
instance Elem38 : Elem Try.prog 38 3 32 := ⟨⟨_, _, Ty38, rfl⟩, by decide⟩
instance Elem44 : Elem Try.prog 44 3 24 := ⟨⟨_, _, Ty44, rfl⟩, by decide⟩
instance Elem49 : Elem Try.prog 49 6 72 := ⟨⟨_, _, Ty49, rfl⟩, by decide⟩
instance Elem50 : Elem Try.prog 50 6 72 := ⟨⟨_, _, Ty50, rfl⟩, by decide⟩
instance Elem54 : Elem Try.prog 54 1 24 := ⟨⟨_, _, Ty54, rfl⟩, by decide⟩
instance Elem55 : Elem Try.prog 55 1 2 := ⟨⟨_, _, Ty55, rfl⟩, by decide⟩
instance Elem56 : Elem Try.prog 56 2 4 := ⟨⟨_, _, Ty56, rfl⟩, by decide⟩
instance Elem58 : Elem Try.prog 58 1 24 := ⟨⟨_, _, Ty58, rfl⟩, by decide⟩
instance Elem68 : Elem Try.prog 68 4 40 := ⟨⟨_, _, Ty68, rfl⟩, by decide⟩
instance Elem69 : Elem Try.prog 69 4 40 := ⟨⟨_, _, Ty69, rfl⟩, by decide⟩
instance Elem74 : Elem Try.prog 74 1 4 := ⟨⟨_, _, Ty74, rfl⟩, by decide⟩
instance Elem75 : Elem Try.prog 75 1 1 := ⟨⟨_, _, Ty75, rfl⟩, by decide⟩
instance Elem76 : Elem Try.prog 76 1 1 := ⟨⟨_, _, Ty76, rfl⟩, by decide⟩
instance Elem78 : Elem Try.prog 78 1 8 := ⟨⟨_, _, Ty78, rfl⟩, by decide⟩
instance Elem79 : Elem Try.prog 79 1 4 := ⟨⟨_, _, Ty79, rfl⟩, by decide⟩
instance Elem80 : Elem Try.prog 80 1 4 := ⟨⟨_, _, Ty80, rfl⟩, by decide⟩
instance Elem81 : Elem Try.prog 81 11 48 := ⟨⟨_, _, Ty81, rfl⟩, by decide⟩
instance Elem82 : Elem Try.prog 82 11 48 := ⟨⟨_, _, Ty82, rfl⟩, by decide⟩
instance FnTy3 : FnTy Try.prog 3 := ⟨fun _ _ => by kernel_rfl⟩
instance FnTy4 : FnTy Try.prog 4 := ⟨fun _ _ => by kernel_rfl⟩
instance FnTy5 : FnTy Try.prog 5 := ⟨fun _ _ => by kernel_rfl⟩
instance FnTy6 : FnTy Try.prog 6 := ⟨fun _ _ => by kernel_rfl⟩
instance FnTy7 : FnTy Try.prog 7 := ⟨fun _ _ => by kernel_rfl⟩
instance FnTy8 : FnTy Try.prog 8 := ⟨fun _ _ => by kernel_rfl⟩
instance FnTy9 : FnTy Try.prog 9 := ⟨fun _ _ => by kernel_rfl⟩
instance FnTy10 : FnTy Try.prog 10 := ⟨fun _ _ => by kernel_rfl⟩
instance FnTy11 : FnTy Try.prog 11 := ⟨fun _ _ => by kernel_rfl⟩
instance FnTy12 : FnTy Try.prog 12 := ⟨fun _ _ => by kernel_rfl⟩
instance FnTy13 : FnTy Try.prog 13 := ⟨fun _ _ => by kernel_rfl⟩
instance FnTy14 : FnTy Try.prog 14 := ⟨fun _ _ => by kernel_rfl⟩
instance FnTy15 : FnTy Try.prog 15 := ⟨fun _ _ => by kernel_rfl⟩
instance FnTy16 : FnTy Try.prog 16 := ⟨fun _ _ => by kernel_rfl⟩
instance FnTy17 : FnTy Try.prog 17 := ⟨fun _ _ => by kernel_rfl⟩
instance FnTy18 : FnTy Try.prog 18 := ⟨fun _ _ => by kernel_rfl⟩
instance FnTy19 : FnTy Try.prog 19 := ⟨fun _ _ => by kernel_rfl⟩
instance FnTy20 : FnTy Try.prog 20 := ⟨fun _ _ => by kernel_rfl⟩
instance FnTy21 : FnTy Try.prog 21 := ⟨fun _ _ => by kernel_rfl⟩
instance FnTy22 : FnTy Try.prog 22 := ⟨fun _ _ => by kernel_rfl⟩
instance FnTy23 : FnTy Try.prog 23 := ⟨fun _ _ => by kernel_rfl⟩
instance FnTy24 : FnTy Try.prog 24 := ⟨fun _ _ => by kernel_rfl⟩
instance FnTy25 : FnTy Try.prog 25 := ⟨fun _ _ => by kernel_rfl⟩
instance FnTy26 : FnTy Try.prog 26 := ⟨fun _ _ => by kernel_rfl⟩
instance FnTy27 : FnTy Try.prog 27 := ⟨fun _ _ => by kernel_rfl⟩
instance FnTy28 : FnTy Try.prog 28 := ⟨fun _ _ => by kernel_rfl⟩
instance FnTy29 : FnTy Try.prog 29 := ⟨fun _ _ => by kernel_rfl⟩
instance FnTy30 : FnTy Try.prog 30 := ⟨fun _ _ => by kernel_rfl⟩
instance FnTy31 : FnTy Try.prog 31 := ⟨fun _ _ => by kernel_rfl⟩
instance FnTy32 : FnTy Try.prog 32 := ⟨fun _ _ => by kernel_rfl⟩
theorem mixed : Try.prog.follows .mixedOrders = true := by kernel_rfl
end Go.Proofs.Ytlhgjjbkbeeagaa
