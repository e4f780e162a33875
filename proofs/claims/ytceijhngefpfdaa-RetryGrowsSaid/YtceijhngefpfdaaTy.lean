/- The program's tables as instances. Printed by a program of ours (wip/tools/gen_ty.py). -/
import Derived.Test.YtceijhngefpfdaaChecked
import Derived.Test.YtceijhngefpfdaaC13
namespace Go.Proofs.Ytceijhngefpfdaa
open Go Go.Sym
instance Ty2 : Ty Try.prog 2 false 1 8 (.int .i64 0) := ⟨by kernel_rfl, by kernel_rfl⟩
instance IntTy2 : IntTy Try.prog 2 .i64 := ⟨by kernel_rfl⟩
instance Ty3 : Ty Try.prog 3 false 1 8 (.int .i64 0) := ⟨by kernel_rfl, by kernel_rfl⟩
instance IntTy3 : IntTy Try.prog 3 .i64 := ⟨by kernel_rfl⟩
instance Ty4 : Ty Try.prog 4 false 1 1 (.bool false) := ⟨by kernel_rfl, by kernel_rfl⟩
instance BoolTy4 : BoolTy Try.prog 4 := ⟨by kernel_rfl⟩
instance Ty5 : Ty Try.prog 5 false 1 1 (.int .u8 0) := ⟨by kernel_rfl, by kernel_rfl⟩
instance IntTy5 : IntTy Try.prog 5 .u8 := ⟨by kernel_rfl⟩
instance Ty6 : Ty Try.prog 6 false 1 1 (.int .u8 0) := ⟨by kernel_rfl, by kernel_rfl⟩
instance IntTy6 : IntTy Try.prog 6 .u8 := ⟨by kernel_rfl⟩
instance Ty7 : Ty Try.prog 7 true 4 24 (.agg #[.int .i64 0, .int .i64 0, .bool false, .int .u8 0]) := ⟨by kernel_rfl, by kernel_rfl⟩
instance StructTy7 : StructTy Try.prog 7 [2, 3, 4, 6] := ⟨by kernel_rfl, by kernel_rfl⟩
instance BuildTy7 : BuildTy Try.prog 7 [(0, 1), (1, 1), (2, 1), (3, 1)] := ⟨by kernel_rfl, fun _ => by kernel_rfl⟩
instance FieldTy7_0 : FieldTy Try.prog 7 0 0 := ⟨fun _ _ => by kernel_rfl⟩
instance FieldTy7_1 : FieldTy Try.prog 7 1 1 := ⟨fun _ _ => by kernel_rfl⟩
instance FieldTy7_2 : FieldTy Try.prog 7 2 2 := ⟨fun _ _ => by kernel_rfl⟩
instance FieldTy7_3 : FieldTy Try.prog 7 3 3 := ⟨fun _ _ => by kernel_rfl⟩
instance Ty8 : Ty Try.prog 8 true 4 24 (.agg #[.int .i64 0, .int .i64 0, .bool false, .int .u8 0]) := ⟨by kernel_rfl, by kernel_rfl⟩
instance StructTy8 : StructTy Try.prog 8 [2, 3, 4, 6] := ⟨by kernel_rfl, by kernel_rfl⟩
instance BuildTy8 : BuildTy Try.prog 8 [(0, 1), (1, 1), (2, 1), (3, 1)] := ⟨by kernel_rfl, fun _ => by kernel_rfl⟩
instance FieldTy8_0 : FieldTy Try.prog 8 0 0 := ⟨fun _ _ => by kernel_rfl⟩
instance FieldTy8_1 : FieldTy Try.prog 8 1 1 := ⟨fun _ _ => by kernel_rfl⟩
instance FieldTy8_2 : FieldTy Try.prog 8 2 2 := ⟨fun _ _ => by kernel_rfl⟩
instance FieldTy8_3 : FieldTy Try.prog 8 3 3 := ⟨fun _ _ => by kernel_rfl⟩
instance Ty9 : Ty Try.prog 9 false 1 16 (.string ByteArray.empty) := ⟨by kernel_rfl, by kernel_rfl⟩
instance StrTy9 : StrTy Try.prog 9 := ⟨by kernel_rfl⟩
instance Ty10 : Ty Try.prog 10 false 1 16 (.string ByteArray.empty) := ⟨by kernel_rfl, by kernel_rfl⟩
instance StrTy10 : StrTy Try.prog 10 := ⟨by kernel_rfl⟩
instance Ty11 : Ty Try.prog 11 false 1 16 (.string ByteArray.empty) := ⟨by kernel_rfl, by kernel_rfl⟩
instance StrTy11 : StrTy Try.prog 11 := ⟨by kernel_rfl⟩
instance Ty12 : Ty Try.prog 12 false 1 8 (.int .u64 0) := ⟨by kernel_rfl, by kernel_rfl⟩
instance IntTy12 : IntTy Try.prog 12 .u64 := ⟨by kernel_rfl⟩
instance Ty13 : Ty Try.prog 13 true 2 24 (.agg #[.string ByteArray.empty, .int .u64 0]) := ⟨by kernel_rfl, by kernel_rfl⟩
instance StructTy13 : StructTy Try.prog 13 [9, 12] := ⟨by kernel_rfl, by kernel_rfl⟩
instance BuildTy13 : BuildTy Try.prog 13 [(0, 1), (1, 1)] := ⟨by kernel_rfl, fun _ => by kernel_rfl⟩
instance FieldTy13_0 : FieldTy Try.prog 13 0 0 := ⟨fun _ _ => by kernel_rfl⟩
instance FieldTy13_1 : FieldTy Try.prog 13 1 1 := ⟨fun _ _ => by kernel_rfl⟩
instance Ty14 : Ty Try.prog 14 true 2 24 (.agg #[.string ByteArray.empty, .int .u64 0]) := ⟨by kernel_rfl, by kernel_rfl⟩
instance StructTy14 : StructTy Try.prog 14 [9, 12] := ⟨by kernel_rfl, by kernel_rfl⟩
instance BuildTy14 : BuildTy Try.prog 14 [(0, 1), (1, 1)] := ⟨by kernel_rfl, fun _ => by kernel_rfl⟩
instance FieldTy14_0 : FieldTy Try.prog 14 0 0 := ⟨fun _ _ => by kernel_rfl⟩
instance FieldTy14_1 : FieldTy Try.prog 14 1 1 := ⟨fun _ _ => by kernel_rfl⟩
instance Ty15 : Ty Try.prog 15 false 1 8 (.pointer none) := ⟨by kernel_rfl, by kernel_rfl⟩
instance Ty16 : Ty Try.prog 16 false 1 8 (.pointer none) := ⟨by kernel_rfl, by kernel_rfl⟩
instance Ty17 : Ty Try.prog 17 false 1 8 (.pointer none) := ⟨by kernel_rfl, by kernel_rfl⟩
instance Ty18 : Ty Try.prog 18 true 1 8 (.agg #[.pointer none]) := ⟨by kernel_rfl, by kernel_rfl⟩
instance StructTy18 : StructTy Try.prog 18 [17] := ⟨by kernel_rfl, by kernel_rfl⟩
instance BuildTy18 : BuildTy Try.prog 18 [(0, 1)] := ⟨by kernel_rfl, fun _ => by kernel_rfl⟩
instance FieldTy18_0 : FieldTy Try.prog 18 0 0 := ⟨fun _ _ => by kernel_rfl⟩
instance Ty19 : Ty Try.prog 19 true 1 8 (.agg #[.pointer none]) := ⟨by kernel_rfl, by kernel_rfl⟩
instance StructTy19 : StructTy Try.prog 19 [17] := ⟨by kernel_rfl, by kernel_rfl⟩
instance BuildTy19 : BuildTy Try.prog 19 [(0, 1)] := ⟨by kernel_rfl, fun _ => by kernel_rfl⟩
instance FieldTy19_0 : FieldTy Try.prog 19 0 0 := ⟨fun _ _ => by kernel_rfl⟩
instance Ty21 : Ty Try.prog 21 false 1 4 (.int .i32 0) := ⟨by kernel_rfl, by kernel_rfl⟩
instance IntTy21 : IntTy Try.prog 21 .i32 := ⟨by kernel_rfl⟩
instance Ty22 : Ty Try.prog 22 false 1 24 (.slice none 0 0) := ⟨by kernel_rfl, by kernel_rfl⟩
instance SliceTy22 : SliceTy Try.prog 22 3 := ⟨by kernel_rfl⟩
instance Ty23 : Ty Try.prog 23 true 4 48 (.agg #[.int .i64 0, .slice none 0 0, .int .i64 0, .int .i64 0]) := ⟨by kernel_rfl, by kernel_rfl⟩
instance StructTy23 : StructTy Try.prog 23 [3, 22, 3, 3] := ⟨by kernel_rfl, by kernel_rfl⟩
instance BuildTy23 : BuildTy Try.prog 23 [(0, 1), (1, 1), (2, 1), (3, 1)] := ⟨by kernel_rfl, fun _ => by kernel_rfl⟩
instance FieldTy23_0 : FieldTy Try.prog 23 0 0 := ⟨fun _ _ => by kernel_rfl⟩
instance FieldTy23_1 : FieldTy Try.prog 23 1 1 := ⟨fun _ _ => by kernel_rfl⟩
instance FieldTy23_2 : FieldTy Try.prog 23 2 2 := ⟨fun _ _ => by kernel_rfl⟩
instance FieldTy23_3 : FieldTy Try.prog 23 3 3 := ⟨fun _ _ => by kernel_rfl⟩
instance Ty24 : Ty Try.prog 24 true 4 48 (.agg #[.int .i64 0, .slice none 0 0, .int .i64 0, .int .i64 0]) := ⟨by kernel_rfl, by kernel_rfl⟩
instance StructTy24 : StructTy Try.prog 24 [3, 22, 3, 3] := ⟨by kernel_rfl, by kernel_rfl⟩
instance BuildTy24 : BuildTy Try.prog 24 [(0, 1), (1, 1), (2, 1), (3, 1)] := ⟨by kernel_rfl, fun _ => by kernel_rfl⟩
instance FieldTy24_0 : FieldTy Try.prog 24 0 0 := ⟨fun _ _ => by kernel_rfl⟩
instance FieldTy24_1 : FieldTy Try.prog 24 1 1 := ⟨fun _ _ => by kernel_rfl⟩
instance FieldTy24_2 : FieldTy Try.prog 24 2 2 := ⟨fun _ _ => by kernel_rfl⟩
instance FieldTy24_3 : FieldTy Try.prog 24 3 3 := ⟨fun _ _ => by kernel_rfl⟩
instance Ty25 : Ty Try.prog 25 false 1 8 (.int .i64 0) := ⟨by kernel_rfl, by kernel_rfl⟩
instance IntTy25 : IntTy Try.prog 25 .i64 := ⟨by kernel_rfl⟩
instance Ty33 : Ty Try.prog 33 false 1 24 (.slice none 0 0) := ⟨by kernel_rfl, by kernel_rfl⟩
instance SliceTy33 : SliceTy Try.prog 33 39 := ⟨by kernel_rfl⟩
instance Ty34 : Ty Try.prog 34 true 2 16 (.agg #[.bool false, .int .i64 0]) := ⟨by kernel_rfl, by kernel_rfl⟩
instance StructTy34 : StructTy Try.prog 34 [4, 3] := ⟨by kernel_rfl, by kernel_rfl⟩
instance BuildTy34 : BuildTy Try.prog 34 [(0, 1), (1, 1)] := ⟨by kernel_rfl, fun _ => by kernel_rfl⟩
instance FieldTy34_0 : FieldTy Try.prog 34 0 0 := ⟨fun _ _ => by kernel_rfl⟩
instance FieldTy34_1 : FieldTy Try.prog 34 1 1 := ⟨fun _ _ => by kernel_rfl⟩
instance Ty35 : Ty Try.prog 35 true 2 16 (.agg #[.bool false, .int .i64 0]) := ⟨by kernel_rfl, by kernel_rfl⟩
instance StructTy35 : StructTy Try.prog 35 [4, 3] := ⟨by kernel_rfl, by kernel_rfl⟩
instance BuildTy35 : BuildTy Try.prog 35 [(0, 1), (1, 1)] := ⟨by kernel_rfl, fun _ => by kernel_rfl⟩
instance EqTy35 : EqTy Try.prog 35 [(4, 0), (3, 1)] := ⟨by kernel_rfl, by kernel_rfl, by kernel_rfl, by kernel_rfl⟩
instance FieldTy35_0 : FieldTy Try.prog 35 0 0 := ⟨fun _ _ => by kernel_rfl⟩
instance FieldTy35_1 : FieldTy Try.prog 35 1 1 := ⟨fun _ _ => by kernel_rfl⟩
instance Ty38 : Ty Try.prog 38 true 7 64 (.agg #[.int .i64 0, .int .i64 0, .string ByteArray.empty, .int .i64 0, .int .i64 0, .int .i64 0, .int .i64 0]) := ⟨by kernel_rfl, by kernel_rfl⟩
instance StructTy38 : StructTy Try.prog 38 [3, 3, 9, 3, 3, 3, 3] := ⟨by kernel_rfl, by kernel_rfl⟩
instance BuildTy38 : BuildTy Try.prog 38 [(0, 1), (1, 1), (2, 1), (3, 1), (4, 1), (5, 1), (6, 1)] := ⟨by kernel_rfl, fun _ => by kernel_rfl⟩
instance FieldTy38_0 : FieldTy Try.prog 38 0 0 := ⟨fun _ _ => by kernel_rfl⟩
instance FieldTy38_1 : FieldTy Try.prog 38 1 1 := ⟨fun _ _ => by kernel_rfl⟩
instance FieldTy38_2 : FieldTy Try.prog 38 2 2 := ⟨fun _ _ => by kernel_rfl⟩
instance FieldTy38_3 : FieldTy Try.prog 38 3 3 := ⟨fun _ _ => by kernel_rfl⟩
instance FieldTy38_4 : FieldTy Try.prog 38 4 4 := ⟨fun _ _ => by kernel_rfl⟩
instance FieldTy38_5 : FieldTy Try.prog 38 5 5 := ⟨fun _ _ => by kernel_rfl⟩
instance FieldTy38_6 : FieldTy Try.prog 38 6 6 := ⟨fun _ _ => by kernel_rfl⟩
instance Ty39 : Ty Try.prog 39 true 7 64 (.agg #[.int .i64 0, .int .i64 0, .string ByteArray.empty, .int .i64 0, .int .i64 0, .int .i64 0, .int .i64 0]) := ⟨by kernel_rfl, by kernel_rfl⟩
instance StructTy39 : StructTy Try.prog 39 [3, 3, 9, 3, 3, 3, 3] := ⟨by kernel_rfl, by kernel_rfl⟩
instance BuildTy39 : BuildTy Try.prog 39 [(0, 1), (1, 1), (2, 1), (3, 1), (4, 1), (5, 1), (6, 1)] := ⟨by kernel_rfl, fun _ => by kernel_rfl⟩
instance EqTy39 : EqTy Try.prog 39 [(3, 0), (3, 1), (9, 2), (3, 3), (3, 4), (3, 5), (3, 6)] := ⟨by kernel_rfl, by kernel_rfl, by kernel_rfl, by kernel_rfl⟩
instance FieldTy39_0 : FieldTy Try.prog 39 0 0 := ⟨fun _ _ => by kernel_rfl⟩
instance FieldTy39_1 : FieldTy Try.prog 39 1 1 := ⟨fun _ _ => by kernel_rfl⟩
instance FieldTy39_2 : FieldTy Try.prog 39 2 2 := ⟨fun _ _ => by kernel_rfl⟩
instance FieldTy39_3 : FieldTy Try.prog 39 3 3 := ⟨fun _ _ => by kernel_rfl⟩
instance FieldTy39_4 : FieldTy Try.prog 39 4 4 := ⟨fun _ _ => by kernel_rfl⟩
instance FieldTy39_5 : FieldTy Try.prog 39 5 5 := ⟨fun _ _ => by kernel_rfl⟩
instance FieldTy39_6 : FieldTy Try.prog 39 6 6 := ⟨fun _ _ => by kernel_rfl⟩
instance Ty44 : Ty Try.prog 44 true 2 16 (.agg #[.int .i64 0, .int .i64 0]) := ⟨by kernel_rfl, by kernel_rfl⟩
instance ArrayTy44 : ArrayTy Try.prog 44 2 3 := ⟨by kernel_rfl⟩
instance ArrTs44 : ArrTs Try.prog 44 [3, 3] := ⟨⟨_, _, ArrayTy44.und, rfl⟩, by kernel_rfl⟩
instance BuildArr44 : BuildArr Try.prog 44 [(0, 1), (1, 1)] := ⟨_, _, _, _, _, _, ArrayTy44.und, Ty3, by decide⟩
instance Ty50 : Ty Try.prog 50 true 4 40 (.agg #[.pointer none, .pointer none, .pointer none, .string ByteArray.empty]) := ⟨by kernel_rfl, by kernel_rfl⟩
instance StructTy50 : StructTy Try.prog 50 [17, 17, 17, 9] := ⟨by kernel_rfl, by kernel_rfl⟩
instance BuildTy50 : BuildTy Try.prog 50 [(0, 1), (1, 1), (2, 1), (3, 1)] := ⟨by kernel_rfl, fun _ => by kernel_rfl⟩
instance FieldTy50_0 : FieldTy Try.prog 50 0 0 := ⟨fun _ _ => by kernel_rfl⟩
instance FieldTy50_1 : FieldTy Try.prog 50 1 1 := ⟨fun _ _ => by kernel_rfl⟩
instance FieldTy50_2 : FieldTy Try.prog 50 2 2 := ⟨fun _ _ => by kernel_rfl⟩
instance FieldTy50_3 : FieldTy Try.prog 50 3 3 := ⟨fun _ _ => by kernel_rfl⟩
instance Ty51 : Ty Try.prog 51 true 4 40 (.agg #[.pointer none, .pointer none, .pointer none, .string ByteArray.empty]) := ⟨by kernel_rfl, by kernel_rfl⟩
instance StructTy51 : StructTy Try.prog 51 [17, 17, 17, 9] := ⟨by kernel_rfl, by kernel_rfl⟩
instance BuildTy51 : BuildTy Try.prog 51 [(0, 1), (1, 1), (2, 1), (3, 1)] := ⟨by kernel_rfl, fun _ => by kernel_rfl⟩
instance FieldTy51_0 : FieldTy Try.prog 51 0 0 := ⟨fun _ _ => by kernel_rfl⟩
instance FieldTy51_1 : FieldTy Try.prog 51 1 1 := ⟨fun _ _ => by kernel_rfl⟩
instance FieldTy51_2 : FieldTy Try.prog 51 2 2 := ⟨fun _ _ => by kernel_rfl⟩
instance FieldTy51_3 : FieldTy Try.prog 51 3 3 := ⟨fun _ _ => by kernel_rfl⟩
instance Ty52 : Ty Try.prog 52 true 0 0 (.agg #[]) := ⟨by kernel_rfl, by kernel_rfl⟩
instance ArrayTy52 : ArrayTy Try.prog 52 0 16 := ⟨by kernel_rfl⟩
instance Ty53 : Ty Try.prog 53 true 0 0 (.agg #[]) := ⟨by kernel_rfl, by kernel_rfl⟩
instance StructTy53 : StructTy Try.prog 53 [52] := ⟨by kernel_rfl, by kernel_rfl⟩
instance BuildTy53 : BuildTy Try.prog 53 [(0, 0)] := ⟨by kernel_rfl, fun _ => by kernel_rfl⟩
instance Ty54 : Ty Try.prog 54 true 0 0 (.agg #[]) := ⟨by kernel_rfl, by kernel_rfl⟩
instance StructTy54 : StructTy Try.prog 54 [52] := ⟨by kernel_rfl, by kernel_rfl⟩
instance BuildTy54 : BuildTy Try.prog 54 [(0, 0)] := ⟨by kernel_rfl, fun _ => by kernel_rfl⟩
instance Ty56 : Ty Try.prog 56 false 1 4 (.int .u32 0) := ⟨by kernel_rfl, by kernel_rfl⟩
instance IntTy56 : IntTy Try.prog 56 .u32 := ⟨by kernel_rfl⟩
instance Ty57 : Ty Try.prog 57 false 1 1 (.int .u8 0) := ⟨by kernel_rfl, by kernel_rfl⟩
instance IntTy57 : IntTy Try.prog 57 .u8 := ⟨by kernel_rfl⟩
instance Ty58 : Ty Try.prog 58 false 1 1 (.int .u8 0) := ⟨by kernel_rfl, by kernel_rfl⟩
instance IntTy58 : IntTy Try.prog 58 .u8 := ⟨by kernel_rfl⟩
instance Ty60 : Ty Try.prog 60 false 1 8 (.pointer none) := ⟨by kernel_rfl, by kernel_rfl⟩
instance Ty61 : Ty Try.prog 61 false 1 4 (.int .i32 0) := ⟨by kernel_rfl, by kernel_rfl⟩
instance IntTy61 : IntTy Try.prog 61 .i32 := ⟨by kernel_rfl⟩
instance Ty62 : Ty Try.prog 62 false 1 4 (.int .i32 0) := ⟨by kernel_rfl, by kernel_rfl⟩
instance IntTy62 : IntTy Try.prog 62 .i32 := ⟨by kernel_rfl⟩
instance Ty63 : Ty Try.prog 63 true 11 48 (.agg #[.int .u64 0, .int .u64 0, .int .u32 0, .int .u8 0, .int .u8 0, .int .u8 0, .int .u8 0, .nilFunc, .pointer none, .int .i32 0, .int .i32 0]) := ⟨by kernel_rfl, by kernel_rfl⟩
instance StructTy63 : StructTy Try.prog 63 [12, 12, 56, 57, 5, 5, 58, 59, 60, 61, 62] := ⟨by kernel_rfl, by kernel_rfl⟩
instance BuildTy63 : BuildTy Try.prog 63 [(0, 1), (1, 1), (2, 1), (3, 1), (4, 1), (5, 1), (6, 1), (7, 1), (8, 1), (9, 1), (10, 1)] := ⟨by kernel_rfl, fun _ => by kernel_rfl⟩
instance FieldTy63_0 : FieldTy Try.prog 63 0 0 := ⟨fun _ _ => by kernel_rfl⟩
instance FieldTy63_1 : FieldTy Try.prog 63 1 1 := ⟨fun _ _ => by kernel_rfl⟩
instance FieldTy63_2 : FieldTy Try.prog 63 2 2 := ⟨fun _ _ => by kernel_rfl⟩
instance FieldTy63_3 : FieldTy Try.prog 63 3 3 := ⟨fun _ _ => by kernel_rfl⟩
instance FieldTy63_4 : FieldTy Try.prog 63 4 4 := ⟨fun _ _ => by kernel_rfl⟩
instance FieldTy63_5 : FieldTy Try.prog 63 5 5 := ⟨fun _ _ => by kernel_rfl⟩
instance FieldTy63_6 : FieldTy Try.prog 63 6 6 := ⟨fun _ _ => by kernel_rfl⟩
instance FieldTy63_7 : FieldTy Try.prog 63 7 7 := ⟨fun _ _ => by kernel_rfl⟩
instance FieldTy63_8 : FieldTy Try.prog 63 8 8 := ⟨fun _ _ => by kernel_rfl⟩
instance FieldTy63_9 : FieldTy Try.prog 63 9 9 := ⟨fun _ _ => by kernel_rfl⟩
instance FieldTy63_10 : FieldTy Try.prog 63 10 10 := ⟨fun _ _ => by kernel_rfl⟩
instance Ty64 : Ty Try.prog 64 true 11 48 (.agg #[.int .u64 0, .int .u64 0, .int .u32 0, .int .u8 0, .int .u8 0, .int .u8 0, .int .u8 0, .nilFunc, .pointer none, .int .i32 0, .int .i32 0]) := ⟨by kernel_rfl, by kernel_rfl⟩
instance StructTy64 : StructTy Try.prog 64 [12, 12, 56, 57, 5, 5, 58, 59, 60, 61, 62] := ⟨by kernel_rfl, by kernel_rfl⟩
instance BuildTy64 : BuildTy Try.prog 64 [(0, 1), (1, 1), (2, 1), (3, 1), (4, 1), (5, 1), (6, 1), (7, 1), (8, 1), (9, 1), (10, 1)] := ⟨by kernel_rfl, fun _ => by kernel_rfl⟩
instance FieldTy64_0 : FieldTy Try.prog 64 0 0 := ⟨fun _ _ => by kernel_rfl⟩
instance FieldTy64_1 : FieldTy Try.prog 64 1 1 := ⟨fun _ _ => by kernel_rfl⟩
instance FieldTy64_2 : FieldTy Try.prog 64 2 2 := ⟨fun _ _ => by kernel_rfl⟩
instance FieldTy64_3 : FieldTy Try.prog 64 3 3 := ⟨fun _ _ => by kernel_rfl⟩
instance FieldTy64_4 : FieldTy Try.prog 64 4 4 := ⟨fun _ _ => by kernel_rfl⟩
instance FieldTy64_5 : FieldTy Try.prog 64 5 5 := ⟨fun _ _ => by kernel_rfl⟩
instance FieldTy64_6 : FieldTy Try.prog 64 6 6 := ⟨fun _ _ => by kernel_rfl⟩
instance FieldTy64_7 : FieldTy Try.prog 64 7 7 := ⟨fun _ _ => by kernel_rfl⟩
instance FieldTy64_8 : FieldTy Try.prog 64 8 8 := ⟨fun _ _ => by kernel_rfl⟩
instance FieldTy64_9 : FieldTy Try.prog 64 9 9 := ⟨fun _ _ => by kernel_rfl⟩
instance FieldTy64_10 : FieldTy Try.prog 64 10 10 := ⟨fun _ _ => by kernel_rfl⟩
instance Elem2 : Elem Try.prog 2 1 8 := ⟨⟨_, _, Ty2, rfl⟩, by decide⟩
instance Elem3 : Elem Try.prog 3 1 8 := ⟨⟨_, _, Ty3, rfl⟩, by decide⟩
instance Elem4 : Elem Try.prog 4 1 1 := ⟨⟨_, _, Ty4, rfl⟩, by decide⟩
instance Elem5 : Elem Try.prog 5 1 1 := ⟨⟨_, _, Ty5, rfl⟩, by decide⟩
instance Elem6 : Elem Try.prog 6 1 1 := ⟨⟨_, _, Ty6, rfl⟩, by decide⟩
instance Elem7 : Elem Try.prog 7 4 24 := ⟨⟨_, _, Ty7, rfl⟩, by decide⟩
instance Elem8 : Elem Try.prog 8 4 24 := ⟨⟨_, _, Ty8, rfl⟩, by decide⟩
instance Elem9 : Elem Try.prog 9 1 16 := ⟨⟨_, _, Ty9, rfl⟩, by decide⟩
instance Elem10 : Elem Try.prog 10 1 16 := ⟨⟨_, _, Ty10, rfl⟩, by decide⟩
instance Elem11 : Elem Try.prog 11 1 16 := ⟨⟨_, _, Ty11, rfl⟩, by decide⟩
instance Elem12 : Elem Try.prog 12 1 8 := ⟨⟨_, _, Ty12, rfl⟩, by decide⟩
instance Elem13 : Elem Try.prog 13 2 24 := ⟨⟨_, _, Ty13, rfl⟩, by decide⟩
instance Elem14 : Elem Try.prog 14 2 24 := ⟨⟨_, _, Ty14, rfl⟩, by decide⟩
instance Elem15 : Elem Try.prog 15 1 8 := ⟨⟨_, _, Ty15, rfl⟩, by decide⟩
instance Elem16 : Elem Try.prog 16 1 8 := ⟨⟨_, _, Ty16, rfl⟩, by decide⟩
instance Elem17 : Elem Try.prog 17 1 8 := ⟨⟨_, _, Ty17, rfl⟩, by decide⟩
instance Elem18 : Elem Try.prog 18 1 8 := ⟨⟨_, _, Ty18, rfl⟩, by decide⟩
instance Elem19 : Elem Try.prog 19 1 8 := ⟨⟨_, _, Ty19, rfl⟩, by decide⟩
instance Elem21 : Elem Try.prog 21 1 4 := ⟨⟨_, _, Ty21, rfl⟩, by decide⟩
instance Elem22 : Elem Try.prog 22 1 24 := ⟨⟨_, _, Ty22, rfl⟩, by decide⟩
instance Elem23 : Elem Try.prog 23 4 48 := ⟨⟨_, _, Ty23, rfl⟩, by decide⟩
instance Elem24 : Elem Try.prog 24 4 48 := ⟨⟨_, _, Ty24, rfl⟩, by decide⟩
instance Elem25 : Elem Try.prog 25 1 8 := ⟨⟨_, _, Ty25, rfl⟩, by decide⟩
instance Elem33 : Elem Try.prog 33 1 24 := ⟨⟨_, _, Ty33, rfl⟩, by decide⟩
instance Elem34 : Elem Try.prog 34 2 16 := ⟨⟨_, _, Ty34, rfl⟩, by decide⟩
instance Elem35 : Elem Try.prog 35 2 16 := ⟨⟨_, _, Ty35, rfl⟩, by decide⟩
instance Elem38 : Elem Try.prog 38 7 64 := ⟨⟨_, _, Ty38, rfl⟩, by decide⟩
instance Elem39 : Elem Try.prog 39 7 64 := ⟨⟨_, _, Ty39, rfl⟩, by decide⟩
instance Elem44 : Elem Try.prog 44 2 16 := ⟨⟨_, _, Ty44, rfl⟩, by decide⟩
instance Elem50 : Elem Try.prog 50 4 40 := ⟨⟨_, _, Ty50, rfl⟩, by decide⟩
instance Elem51 : Elem Try.prog 51 4 40 := ⟨⟨_, _, Ty51, rfl⟩, by decide⟩
instance Elem56 : Elem Try.prog 56 1 4 := ⟨⟨_, _, Ty56, rfl⟩, by decide⟩
instance Elem57 : Elem Try.prog 57 1 1 := ⟨⟨_, _, Ty57, rfl⟩, by decide⟩
instance Elem58 : Elem Try.prog 58 1 1 := ⟨⟨_, _, Ty58, rfl⟩, by decide⟩
instance Elem60 : Elem Try.prog 60 1 8 := ⟨⟨_, _, Ty60, rfl⟩, by decide⟩
instance Elem61 : Elem Try.prog 61 1 4 := ⟨⟨_, _, Ty61, rfl⟩, by decide⟩
instance Elem62 : Elem Try.prog 62 1 4 := ⟨⟨_, _, Ty62, rfl⟩, by decide⟩
instance Elem63 : Elem Try.prog 63 11 48 := ⟨⟨_, _, Ty63, rfl⟩, by decide⟩
instance Elem64 : Elem Try.prog 64 11 48 := ⟨⟨_, _, Ty64, rfl⟩, by decide⟩
instance FnTy3 : FnTy Try.prog 3 := ⟨fun _ _ => by kernel_rfl⟩
instance FnTy4 : FnTy Try.prog 4 := ⟨fun _ _ => by kernel_rfl⟩
instance FnTy5 : FnTy Try.prog 5 := ⟨fun _ _ => by kernel_rfl⟩
instance FnTy6 : FnTy Try.prog 6 := ⟨fun _ _ => by kernel_rfl⟩
instance FnTy7 : FnTy Try.prog 7 := ⟨fun _ _ => by kernel_rfl⟩
instance FnTy8 : FnTy Try.prog 8 := ⟨fun _ _ => by kernel_rfl⟩
instance FnTy9 : FnTy Try.prog 9 := ⟨fun _ _ => by kernel_rfl⟩
instance FnTy10 : FnTy Try.prog 10 := ⟨fun _ _ => by kernel_rfl⟩
instance FnTy11 : FnTy Try.prog 11 := ⟨fun _ _ => by kernel_rfl⟩
instance FnTy12 : FnTy Try.prog 12 := ⟨fun _ _ => by kernel_rfl⟩
instance FnTy13 : FnTy Try.prog 13 := ⟨fun _ _ => by kernel_rfl⟩
instance FnTy14 : FnTy Try.prog 14 := ⟨fun _ _ => by kernel_rfl⟩
instance FnTy15 : FnTy Try.prog 15 := ⟨fun _ _ => by kernel_rfl⟩
instance FnTy16 : FnTy Try.prog 16 := ⟨fun _ _ => by kernel_rfl⟩
instance FnTy17 : FnTy Try.prog 17 := ⟨fun _ _ => by kernel_rfl⟩
instance FnTy18 : FnTy Try.prog 18 := ⟨fun _ _ => by kernel_rfl⟩
instance FnTy19 : FnTy Try.prog 19 := ⟨fun _ _ => by kernel_rfl⟩
instance FnTy20 : FnTy Try.prog 20 := ⟨fun _ _ => by kernel_rfl⟩
instance FnTy21 : FnTy Try.prog 21 := ⟨fun _ _ => by kernel_rfl⟩
instance FnTy22 : FnTy Try.prog 22 := ⟨fun _ _ => by kernel_rfl⟩
instance FnTy23 : FnTy Try.prog 23 := ⟨fun _ _ => by kernel_rfl⟩
instance FnTy24 : FnTy Try.prog 24 := ⟨fun _ _ => by kernel_rfl⟩
instance FnTy25 : FnTy Try.prog 25 := ⟨fun _ _ => by kernel_rfl⟩
instance FnTy26 : FnTy Try.prog 26 := ⟨fun _ _ => by kernel_rfl⟩
instance FnTy27 : FnTy Try.prog 27 := ⟨fun _ _ => by kernel_rfl⟩
instance FnTy28 : FnTy Try.prog 28 := ⟨fun _ _ => by kernel_rfl⟩
theorem mixed : Try.prog.follows .mixedOrders = true := by kernel_rfl
end Go.Proofs.Ytceijhngefpfdaa
