/- The program's tables as instances. Printed by a program of ours (wip/tools/gen_ty.py). -/
import Derived.Test.YtnlmpgnjhdeejaaChecked
import Derived.Test.YtnlmpgnjhdeejaaC14
namespace Go.Proofs.Ytnlmpgnjhdeejaa
open Go Go.Sym
instance Ty2 : Ty Try.prog 2 false 1 8 (.int .i64 0) := ⟨by kernel_rfl, by kernel_rfl⟩
instance IntTy2 : IntTy Try.prog 2 .i64 := ⟨by kernel_rfl⟩
instance Ty3 : Ty Try.prog 3 false 1 8 (.int .i64 0) := ⟨by kernel_rfl, by kernel_rfl⟩
instance IntTy3 : IntTy Try.prog 3 .i64 := ⟨by kernel_rfl⟩
instance Ty4 : Ty Try.prog 4 false 1 1 (.bool false) := ⟨by kernel_rfl, by kernel_rfl⟩
instance BoolTy4 : BoolTy Try.prog 4 := ⟨by kernel_rfl⟩
instance Ty5 : Ty Try.prog 5 false 1 1 (.int .u8 0) := ⟨by kernel_rfl, by kernel_rfl⟩
instance IntTy5 : IntTy Try.prog 5 .u8 := ⟨by kernel_rfl⟩
instance Ty6 : Ty Try.prog 6 false 1 1 (.int .u8 0) := ⟨by kernel_rfl, by kernel_rfl⟩
instance IntTy6 : IntTy Try.prog 6 .u8 := ⟨by kernel_rfl⟩
instance Ty7 : Ty Try.prog 7 true 4 24 (.agg #[.int .i64 0, .int .i64 0, .bool false, .int .u8 0]) := ⟨by kernel_rfl, by kernel_rfl⟩
instance StructTy7 : StructTy Try.prog 7 [2, 3, 4, 6] := ⟨by kernel_rfl, by kernel_rfl⟩
instance BuildTy7 : BuildTy Try.prog 7 [(0, 1), (1, 1), (2, 1), (3, 1)] := ⟨by kernel_rfl, fun _ => by kernel_rfl⟩
instance FieldTy7_0 : FieldTy Try.prog 7 0 0 := ⟨fun _ _ => by kernel_rfl⟩
instance FieldTy7_1 : FieldTy Try.prog 7 1 1 := ⟨fun _ _ => by kernel_rfl⟩
instance FieldTy7_2 : FieldTy Try.prog 7 2 2 := ⟨fun _ _ => by kernel_rfl⟩
instance FieldTy7_3 : FieldTy Try.prog 7 3 3 := ⟨fun _ _ => by kernel_rfl⟩
instance Ty8 : Ty Try.prog 8 true 4 24 (.agg #[.int .i64 0, .int .i64 0, .bool false, .int .u8 0]) := ⟨by kernel_rfl, by kernel_rfl⟩
instance StructTy8 : StructTy Try.prog 8 [2, 3, 4, 6] := ⟨by kernel_rfl, by kernel_rfl⟩
instance BuildTy8 : BuildTy Try.prog 8 [(0, 1), (1, 1), (2, 1), (3, 1)] := ⟨by kernel_rfl, fun _ => by kernel_rfl⟩
instance FieldTy8_0 : FieldTy Try.prog 8 0 0 := ⟨fun _ _ => by kernel_rfl⟩
instance FieldTy8_1 : FieldTy Try.prog 8 1 1 := ⟨fun _ _ => by kernel_rfl⟩
instance FieldTy8_2 : FieldTy Try.prog 8 2 2 := ⟨fun _ _ => by kernel_rfl⟩
instance FieldTy8_3 : FieldTy Try.prog 8 3 3 := ⟨fun _ _ => by kernel_rfl⟩
instance Ty9 : Ty Try.prog 9 false 1 16 (.string ByteArray.empty) := ⟨by kernel_rfl, by kernel_rfl⟩
instance StrTy9 : StrTy Try.prog 9 := ⟨by kernel_rfl⟩
instance Ty10 : Ty Try.prog 10 false 1 16 (.string ByteArray.empty) := ⟨by kernel_rfl, by kernel_rfl⟩
instance StrTy10 : StrTy Try.prog 10 := ⟨by kernel_rfl⟩
instance Ty11 : Ty Try.prog 11 false 1 16 (.string ByteArray.empty) := ⟨by kernel_rfl, by kernel_rfl⟩
instance StrTy11 : StrTy Try.prog 11 := ⟨by kernel_rfl⟩
instance Ty12 : Ty Try.prog 12 false 1 8 (.int .u64 0) := ⟨by kernel_rfl, by kernel_rfl⟩
instance IntTy12 : IntTy Try.prog 12 .u64 := ⟨by kernel_rfl⟩
instance Ty13 : Ty Try.prog 13 true 2 24 (.agg #[.string ByteArray.empty, .int .u64 0]) := ⟨by kernel_rfl, by kernel_rfl⟩
instance StructTy13 : StructTy Try.prog 13 [9, 12] := ⟨by kernel_rfl, by kernel_rfl⟩
instance BuildTy13 : BuildTy Try.prog 13 [(0, 1), (1, 1)] := ⟨by kernel_rfl, fun _ => by kernel_rfl⟩
instance FieldTy13_0 : FieldTy Try.prog 13 0 0 := ⟨fun _ _ => by kernel_rfl⟩
instance FieldTy13_1 : FieldTy Try.prog 13 1 1 := ⟨fun _ _ => by kernel_rfl⟩
instance Ty14 : Ty Try.prog 14 true 2 24 (.agg #[.string ByteArray.empty, .int .u64 0]) := ⟨by kernel_rfl, by kernel_rfl⟩
instance StructTy14 : StructTy Try.prog 14 [9, 12] := ⟨by kernel_rfl, by kernel_rfl⟩
instance BuildTy14 : BuildTy Try.prog 14 [(0, 1), (1, 1)] := ⟨by kernel_rfl, fun _ => by kernel_rfl⟩
instance FieldTy14_0 : FieldTy Try.prog 14 0 0 := ⟨fun _ _ => by kernel_rfl⟩
instance FieldTy14_1 : FieldTy Try.prog 14 1 1 := ⟨fun _ _ => by kernel_rfl⟩
instance Ty15 : Ty Try.prog 15 false 1 8 (.pointer none) := ⟨by kernel_rfl, by kernel_rfl⟩
instance Ty16 : Ty Try.prog 16 false 1 8 (.pointer none) := ⟨by kernel_rfl, by kernel_rfl⟩
instance Ty17 : Ty Try.prog 17 false 1 8 (.pointer none) := ⟨by kernel_rfl, by kernel_rfl⟩
instance Ty18 : Ty Try.prog 18 true 1 8 (.agg #[.pointer none]) := ⟨by kernel_rfl, by kernel_rfl⟩
instance StructTy18 : StructTy Try.prog 18 [17] := ⟨by kernel_rfl, by kernel_rfl⟩
instance BuildTy18 : BuildTy Try.prog 18 [(0, 1)] := ⟨by kernel_rfl, fun _ => by kernel_rfl⟩
instance FieldTy18_0 : FieldTy Try.prog 18 0 0 := ⟨fun _ _ => by kernel_rfl⟩
instance Ty19 : Ty Try.prog 19 true 1 8 (.agg #[.pointer none]) := ⟨by kernel_rfl, by kernel_rfl⟩
instance StructTy19 : StructTy Try.prog 19 [17] := ⟨by kernel_rfl, by kernel_rfl⟩
instance BuildTy19 : BuildTy Try.prog 19 [(0, 1)] := ⟨by kernel_rfl, fun _ => by kernel_rfl⟩
instance FieldTy19_0 : FieldTy Try.prog 19 0 0 := ⟨fun _ _ => by kernel_rfl⟩
instance Ty21 : Ty Try.prog 21 false 1 4 (.int .i32 0) := ⟨by kernel_rfl, by kernel_rfl⟩
instance IntTy21 : IntTy Try.prog 21 .i32 := ⟨by kernel_rfl⟩
instance Ty22 : Ty Try.prog 22 false 1 24 (.slice none 0 0) := ⟨by kernel_rfl, by kernel_rfl⟩
instance SliceTy22 : SliceTy Try.prog 22 26 := ⟨by kernel_rfl⟩
instance Ty25 : Ty Try.prog 25 true 7 64 (.agg #[.int .i64 0, .int .i64 0, .string ByteArray.empty, .int .i64 0, .int .i64 0, .int .i64 0, .int .i64 0]) := ⟨by kernel_rfl, by kernel_rfl⟩
instance StructTy25 : StructTy Try.prog 25 [3, 3, 9, 3, 3, 3, 3] := ⟨by kernel_rfl, by kernel_rfl⟩
instance BuildTy25 : BuildTy Try.prog 25 [(0, 1), (1, 1), (2, 1), (3, 1), (4, 1), (5, 1), (6, 1)] := ⟨by kernel_rfl, fun _ => by kernel_rfl⟩
instance FieldTy25_0 : FieldTy Try.prog 25 0 0 := ⟨fun _ _ => by kernel_rfl⟩
instance FieldTy25_1 : FieldTy Try.prog 25 1 1 := ⟨fun _ _ => by kernel_rfl⟩
instance FieldTy25_2 : FieldTy Try.prog 25 2 2 := ⟨fun _ _ => by kernel_rfl⟩
instance FieldTy25_3 : FieldTy Try.prog 25 3 3 := ⟨fun _ _ => by kernel_rfl⟩
instance FieldTy25_4 : FieldTy Try.prog 25 4 4 := ⟨fun _ _ => by kernel_rfl⟩
instance FieldTy25_5 : FieldTy Try.prog 25 5 5 := ⟨fun _ _ => by kernel_rfl⟩
instance FieldTy25_6 : FieldTy Try.prog 25 6 6 := ⟨fun _ _ => by kernel_rfl⟩
instance Ty26 : Ty Try.prog 26 true 7 64 (.agg #[.int .i64 0, .int .i64 0, .string ByteArray.empty, .int .i64 0, .int .i64 0, .int .i64 0, .int .i64 0]) := ⟨by kernel_rfl, by kernel_rfl⟩
instance StructTy26 : StructTy Try.prog 26 [3, 3, 9, 3, 3, 3, 3] := ⟨by kernel_rfl, by kernel_rfl⟩
instance BuildTy26 : BuildTy Try.prog 26 [(0, 1), (1, 1), (2, 1), (3, 1), (4, 1), (5, 1), (6, 1)] := ⟨by kernel_rfl, fun _ => by kernel_rfl⟩
instance EqTy26 : EqTy Try.prog 26 [(3, 0), (3, 1), (9, 2), (3, 3), (3, 4), (3, 5), (3, 6)] := ⟨by kernel_rfl, by kernel_rfl, by kernel_rfl, by kernel_rfl⟩
instance FieldTy26_0 : FieldTy Try.prog 26 0 0 := ⟨fun _ _ => by kernel_rfl⟩
instance FieldTy26_1 : FieldTy Try.prog 26 1 1 := ⟨fun _ _ => by kernel_rfl⟩
instance FieldTy26_2 : FieldTy Try.prog 26 2 2 := ⟨fun _ _ => by kernel_rfl⟩
instance FieldTy26_3 : FieldTy Try.prog 26 3 3 := ⟨fun _ _ => by kernel_rfl⟩
instance FieldTy26_4 : FieldTy Try.prog 26 4 4 := ⟨fun _ _ => by kernel_rfl⟩
instance FieldTy26_5 : FieldTy Try.prog 26 5 5 := ⟨fun _ _ => by kernel_rfl⟩
instance FieldTy26_6 : FieldTy Try.prog 26 6 6 := ⟨fun _ _ => by kernel_rfl⟩
instance Ty29 : Ty Try.prog 29 false 1 8 (.int .i64 0) := ⟨by kernel_rfl, by kernel_rfl⟩
instance IntTy29 : IntTy Try.prog 29 .i64 := ⟨by kernel_rfl⟩
instance Ty32 : Ty Try.prog 32 true 5 48 (.agg #[.int .i64 0, .string ByteArray.empty, .int .i64 0, .int .i64 0, .int .i64 0]) := ⟨by kernel_rfl, by kernel_rfl⟩
instance StructTy32 : StructTy Try.prog 32 [3, 9, 3, 3, 3] := ⟨by kernel_rfl, by kernel_rfl⟩
instance BuildTy32 : BuildTy Try.prog 32 [(0, 1), (1, 1), (2, 1), (3, 1), (4, 1)] := ⟨by kernel_rfl, fun _ => by kernel_rfl⟩
instance FieldTy32_0 : FieldTy Try.prog 32 0 0 := ⟨fun _ _ => by kernel_rfl⟩
instance FieldTy32_1 : FieldTy Try.prog 32 1 1 := ⟨fun _ _ => by kernel_rfl⟩
instance FieldTy32_2 : FieldTy Try.prog 32 2 2 := ⟨fun _ _ => by kernel_rfl⟩
instance FieldTy32_3 : FieldTy Try.prog 32 3 3 := ⟨fun _ _ => by kernel_rfl⟩
instance FieldTy32_4 : FieldTy Try.prog 32 4 4 := ⟨fun _ _ => by kernel_rfl⟩
instance Ty33 : Ty Try.prog 33 true 5 48 (.agg #[.int .i64 0, .string ByteArray.empty, .int .i64 0, .int .i64 0, .int .i64 0]) := ⟨by kernel_rfl, by kernel_rfl⟩
instance StructTy33 : StructTy Try.prog 33 [3, 9, 3, 3, 3] := ⟨by kernel_rfl, by kernel_rfl⟩
instance BuildTy33 : BuildTy Try.prog 33 [(0, 1), (1, 1), (2, 1), (3, 1), (4, 1)] := ⟨by kernel_rfl, fun _ => by kernel_rfl⟩
instance EqTy33 : EqTy Try.prog 33 [(3, 0), (9, 1), (3, 2), (3, 3), (3, 4)] := ⟨by kernel_rfl, by kernel_rfl, by kernel_rfl, by kernel_rfl⟩
instance FieldTy33_0 : FieldTy Try.prog 33 0 0 := ⟨fun _ _ => by kernel_rfl⟩
instance FieldTy33_1 : FieldTy Try.prog 33 1 1 := ⟨fun _ _ => by kernel_rfl⟩
instance FieldTy33_2 : FieldTy Try.prog 33 2 2 := ⟨fun _ _ => by kernel_rfl⟩
instance FieldTy33_3 : FieldTy Try.prog 33 3 3 := ⟨fun _ _ => by kernel_rfl⟩
instance FieldTy33_4 : FieldTy Try.prog 33 4 4 := ⟨fun _ _ => by kernel_rfl⟩
instance Ty42 : Ty Try.prog 42 false 1 24 (.slice none 0 0) := ⟨by kernel_rfl, by kernel_rfl⟩
instance SliceTy42 : SliceTy Try.prog 42 44 := ⟨by kernel_rfl⟩
instance Ty43 : Ty Try.prog 43 true 6 56 (.agg #[.bool false, .int .i64 0, .string ByteArray.empty, .int .i64 0, .int .i64 0, .int .i64 0]) := ⟨by kernel_rfl, by kernel_rfl⟩
instance StructTy43 : StructTy Try.prog 43 [4, 33] := ⟨by kernel_rfl, by kernel_rfl⟩
instance BuildTy43 : BuildTy Try.prog 43 [(0, 1), (1, 5)] := ⟨by kernel_rfl, fun _ => by kernel_rfl⟩
instance FieldTy43_0 : FieldTy Try.prog 43 0 0 := ⟨fun _ _ => by kernel_rfl⟩
instance FieldTy43_1 : FieldTy Try.prog 43 1 1 := ⟨fun _ _ => by kernel_rfl⟩
instance Ty44 : Ty Try.prog 44 true 6 56 (.agg #[.bool false, .int .i64 0, .string ByteArray.empty, .int .i64 0, .int .i64 0, .int .i64 0]) := ⟨by kernel_rfl, by kernel_rfl⟩
instance StructTy44 : StructTy Try.prog 44 [4, 33] := ⟨by kernel_rfl, by kernel_rfl⟩
instance BuildTy44 : BuildTy Try.prog 44 [(0, 1), (1, 5)] := ⟨by kernel_rfl, fun _ => by kernel_rfl⟩
instance FieldTy44_0 : FieldTy Try.prog 44 0 0 := ⟨fun _ _ => by kernel_rfl⟩
instance FieldTy44_1 : FieldTy Try.prog 44 1 1 := ⟨fun _ _ => by kernel_rfl⟩
instance Ty46 : Ty Try.prog 46 false 1 24 (.slice none 0 0) := ⟨by kernel_rfl, by kernel_rfl⟩
instance SliceTy46 : SliceTy Try.prog 46 3 := ⟨by kernel_rfl⟩
instance Ty47 : Ty Try.prog 47 true 4 48 (.agg #[.int .i64 0, .slice none 0 0, .int .i64 0, .int .i64 0]) := ⟨by kernel_rfl, by kernel_rfl⟩
instance StructTy47 : StructTy Try.prog 47 [3, 46, 3, 3] := ⟨by kernel_rfl, by kernel_rfl⟩
instance BuildTy47 : BuildTy Try.prog 47 [(0, 1), (1, 1), (2, 1), (3, 1)] := ⟨by kernel_rfl, fun _ => by kernel_rfl⟩
instance FieldTy47_0 : FieldTy Try.prog 47 0 0 := ⟨fun _ _ => by kernel_rfl⟩
instance FieldTy47_1 : FieldTy Try.prog 47 1 1 := ⟨fun _ _ => by kernel_rfl⟩
instance FieldTy47_2 : FieldTy Try.prog 47 2 2 := ⟨fun _ _ => by kernel_rfl⟩
instance FieldTy47_3 : FieldTy Try.prog 47 3 3 := ⟨fun _ _ => by kernel_rfl⟩
instance Ty48 : Ty Try.prog 48 true 4 48 (.agg #[.int .i64 0, .slice none 0 0, .int .i64 0, .int .i64 0]) := ⟨by kernel_rfl, by kernel_rfl⟩
instance StructTy48 : StructTy Try.prog 48 [3, 46, 3, 3] := ⟨by kernel_rfl, by kernel_rfl⟩
instance BuildTy48 : BuildTy Try.prog 48 [(0, 1), (1, 1), (2, 1), (3, 1)] := ⟨by kernel_rfl, fun _ => by kernel_rfl⟩
instance FieldTy48_0 : FieldTy Try.prog 48 0 0 := ⟨fun _ _ => by kernel_rfl⟩
instance FieldTy48_1 : FieldTy Try.prog 48 1 1 := ⟨fun _ _ => by kernel_rfl⟩
instance FieldTy48_2 : FieldTy Try.prog 48 2 2 := ⟨fun _ _ => by kernel_rfl⟩
instance FieldTy48_3 : FieldTy Try.prog 48 3 3 := ⟨fun _ _ => by kernel_rfl⟩
instance Ty49 : Ty Try.prog 49 false 1 24 (.slice none 0 0) := ⟨by kernel_rfl, by kernel_rfl⟩
instance SliceTy49 : SliceTy Try.prog 49 33 := ⟨by kernel_rfl⟩
instance Ty51 : Ty Try.prog 51 true 2 16 (.agg #[.bool false, .int .i64 0]) := ⟨by kernel_rfl, by kernel_rfl⟩
instance StructTy51 : StructTy Try.prog 51 [4, 3] := ⟨by kernel_rfl, by kernel_rfl⟩
instance BuildTy51 : BuildTy Try.prog 51 [(0, 1), (1, 1)] := ⟨by kernel_rfl, fun _ => by kernel_rfl⟩
instance FieldTy51_0 : FieldTy Try.prog 51 0 0 := ⟨fun _ _ => by kernel_rfl⟩
instance FieldTy51_1 : FieldTy Try.prog 51 1 1 := ⟨fun _ _ => by kernel_rfl⟩
instance Ty52 : Ty Try.prog 52 true 2 16 (.agg #[.bool false, .int .i64 0]) := ⟨by kernel_rfl, by kernel_rfl⟩
instance StructTy52 : StructTy Try.prog 52 [4, 3] := ⟨by kernel_rfl, by kernel_rfl⟩
instance BuildTy52 : BuildTy Try.prog 52 [(0, 1), (1, 1)] := ⟨by kernel_rfl, fun _ => by kernel_rfl⟩
instance EqTy52 : EqTy Try.prog 52 [(4, 0), (3, 1)] := ⟨by kernel_rfl, by kernel_rfl, by kernel_rfl, by kernel_rfl⟩
instance FieldTy52_0 : FieldTy Try.prog 52 0 0 := ⟨fun _ _ => by kernel_rfl⟩
instance FieldTy52_1 : FieldTy Try.prog 52 1 1 := ⟨fun _ _ => by kernel_rfl⟩
instance Ty68 : Ty Try.prog 68 true 2 16 (.agg #[.int .i64 0, .int .i64 0]) := ⟨by kernel_rfl, by kernel_rfl⟩
instance ArrayTy68 : ArrayTy Try.prog 68 2 3 := ⟨by kernel_rfl⟩
instance ArrTs68 : ArrTs Try.prog 68 [3, 3] := ⟨⟨_, _, ArrayTy68.und, rfl⟩, by kernel_rfl⟩
instance BuildArr68 : BuildArr Try.prog 68 [(0, 1), (1, 1)] := ⟨_, _, _, _, _, _, ArrayTy68.und, Ty3, by decide⟩
instance Ty71 : Ty Try.prog 71 true 4 40 (.agg #[.pointer none, .pointer none, .pointer none, .string ByteArray.empty]) := ⟨by kernel_rfl, by kernel_rfl⟩
instance StructTy71 : StructTy Try.prog 71 [17, 17, 17, 9] := ⟨by kernel_rfl, by kernel_rfl⟩
instance BuildTy71 : BuildTy Try.prog 71 [(0, 1), (1, 1), (2, 1), (3, 1)] := ⟨by kernel_rfl, fun _ => by kernel_rfl⟩
instance FieldTy71_0 : FieldTy Try.prog 71 0 0 := ⟨fun _ _ => by kernel_rfl⟩
instance FieldTy71_1 : FieldTy Try.prog 71 1 1 := ⟨fun _ _ => by kernel_rfl⟩
instance FieldTy71_2 : FieldTy Try.prog 71 2 2 := ⟨fun _ _ => by kernel_rfl⟩
instance FieldTy71_3 : FieldTy Try.prog 71 3 3 := ⟨fun _ _ => by kernel_rfl⟩
instance Ty72 : Ty Try.prog 72 true 4 40 (.agg #[.pointer none, .pointer none, .pointer none, .string ByteArray.empty]) := ⟨by kernel_rfl, by kernel_rfl⟩
instance StructTy72 : StructTy Try.prog 72 [17, 17, 17, 9] := ⟨by kernel_rfl, by kernel_rfl⟩
instance BuildTy72 : BuildTy Try.prog 72 [(0, 1), (1, 1), (2, 1), (3, 1)] := ⟨by kernel_rfl, fun _ => by kernel_rfl⟩
instance FieldTy72_0 : FieldTy Try.prog 72 0 0 := ⟨fun _ _ => by kernel_rfl⟩
instance FieldTy72_1 : FieldTy Try.prog 72 1 1 := ⟨fun _ _ => by kernel_rfl⟩
instance FieldTy72_2 : FieldTy Try.prog 72 2 2 := ⟨fun _ _ => by kernel_rfl⟩
instance FieldTy72_3 : FieldTy Try.prog 72 3 3 := ⟨fun _ _ => by kernel_rfl⟩
instance Ty73 : Ty Try.prog 73 true 0 0 (.agg #[]) := ⟨by kernel_rfl, by kernel_rfl⟩
instance ArrayTy73 : ArrayTy Try.prog 73 0 16 := ⟨by kernel_rfl⟩
instance Ty74 : Ty Try.prog 74 true 0 0 (.agg #[]) := ⟨by kernel_rfl, by kernel_rfl⟩
instance StructTy74 : StructTy Try.prog 74 [73] := ⟨by kernel_rfl, by kernel_rfl⟩
instance BuildTy74 : BuildTy Try.prog 74 [(0, 0)] := ⟨by kernel_rfl, fun _ => by kernel_rfl⟩
instance Ty75 : Ty Try.prog 75 true 0 0 (.agg #[]) := ⟨by kernel_rfl, by kernel_rfl⟩
instance StructTy75 : StructTy Try.prog 75 [73] := ⟨by kernel_rfl, by kernel_rfl⟩
instance BuildTy75 : BuildTy Try.prog 75 [(0, 0)] := ⟨by kernel_rfl, fun _ => by kernel_rfl⟩
instance Ty77 : Ty Try.prog 77 false 1 4 (.int .u32 0) := ⟨by kernel_rfl, by kernel_rfl⟩
instance IntTy77 : IntTy Try.prog 77 .u32 := ⟨by kernel_rfl⟩
instance Ty78 : Ty Try.prog 78 false 1 1 (.int .u8 0) := ⟨by kernel_rfl, by kernel_rfl⟩
instance IntTy78 : IntTy Try.prog 78 .u8 := ⟨by kernel_rfl⟩
instance Ty79 : Ty Try.prog 79 false 1 1 (.int .u8 0) := ⟨by kernel_rfl, by kernel_rfl⟩
instance IntTy79 : IntTy Try.prog 79 .u8 := ⟨by kernel_rfl⟩
instance Ty81 : Ty Try.prog 81 false 1 8 (.pointer none) := ⟨by kernel_rfl, by kernel_rfl⟩
instance Ty82 : Ty Try.prog 82 false 1 4 (.int .i32 0) := ⟨by kernel_rfl, by kernel_rfl⟩
instance IntTy82 : IntTy Try.prog 82 .i32 := ⟨by kernel_rfl⟩
instance Ty83 : Ty Try.prog 83 false 1 4 (.int .i32 0) := ⟨by kernel_rfl, by kernel_rfl⟩
instance IntTy83 : IntTy Try.prog 83 .i32 := ⟨by kernel_rfl⟩
instance Ty84 : Ty Try.prog 84 true 11 48 (.agg #[.int .u64 0, .int .u64 0, .int .u32 0, .int .u8 0, .int .u8 0, .int .u8 0, .int .u8 0, .nilFunc, .pointer none, .int .i32 0, .int .i32 0]) := ⟨by kernel_rfl, by kernel_rfl⟩
instance StructTy84 : StructTy Try.prog 84 [12, 12, 77, 78, 5, 5, 79, 80, 81, 82, 83] := ⟨by kernel_rfl, by kernel_rfl⟩
instance BuildTy84 : BuildTy Try.prog 84 [(0, 1), (1, 1), (2, 1), (3, 1), (4, 1), (5, 1), (6, 1), (7, 1), (8, 1), (9, 1), (10, 1)] := ⟨by kernel_rfl, fun _ => by kernel_rfl⟩
instance FieldTy84_0 : FieldTy Try.prog 84 0 0 := ⟨fun _ _ => by kernel_rfl⟩
instance FieldTy84_1 : FieldTy Try.prog 84 1 1 := ⟨fun _ _ => by kernel_rfl⟩
instance FieldTy84_2 : FieldTy Try.prog 84 2 2 := ⟨fun _ _ => by kernel_rfl⟩
instance FieldTy84_3 : FieldTy Try.prog 84 3 3 := ⟨fun _ _ => by kernel_rfl⟩
instance FieldTy84_4 : FieldTy Try.prog 84 4 4 := ⟨fun _ _ => by kernel_rfl⟩
instance FieldTy84_5 : FieldTy Try.prog 84 5 5 := ⟨fun _ _ => by kernel_rfl⟩
instance FieldTy84_6 : FieldTy Try.prog 84 6 6 := ⟨fun _ _ => by kernel_rfl⟩
instance FieldTy84_7 : FieldTy Try.prog 84 7 7 := ⟨fun _ _ => by kernel_rfl⟩
instance FieldTy84_8 : FieldTy Try.prog 84 8 8 := ⟨fun _ _ => by kernel_rfl⟩
instance FieldTy84_9 : FieldTy Try.prog 84 9 9 := ⟨fun _ _ => by kernel_rfl⟩
instance FieldTy84_10 : FieldTy Try.prog 84 10 10 := ⟨fun _ _ => by kernel_rfl⟩
instance Ty85 : Ty Try.prog 85 true 11 48 (.agg #[.int .u64 0, .int .u64 0, .int .u32 0, .int .u8 0, .int .u8 0, .int .u8 0, .int .u8 0, .nilFunc, .pointer none, .int .i32 0, .int .i32 0]) := ⟨by kernel_rfl, by kernel_rfl⟩
instance StructTy85 : StructTy Try.prog 85 [12, 12, 77, 78, 5, 5, 79, 80, 81, 82, 83] := ⟨by kernel_rfl, by kernel_rfl⟩
instance BuildTy85 : BuildTy Try.prog 85 [(0, 1), (1, 1), (2, 1), (3, 1), (4, 1), (5, 1), (6, 1), (7, 1), (8, 1), (9, 1), (10, 1)] := ⟨by kernel_rfl, fun _ => by kernel_rfl⟩
instance FieldTy85_0 : FieldTy Try.prog 85 0 0 := ⟨fun _ _ => by kernel_rfl⟩
instance FieldTy85_1 : FieldTy Try.prog 85 1 1 := ⟨fun _ _ => by kernel_rfl⟩
instance FieldTy85_2 : FieldTy Try.prog 85 2 2 := ⟨fun _ _ => by kernel_rfl⟩
instance FieldTy85_3 : FieldTy Try.prog 85 3 3 := ⟨fun _ _ => by kernel_rfl⟩
instance FieldTy85_4 : FieldTy Try.prog 85 4 4 := ⟨fun _ _ => by kernel_rfl⟩
instance FieldTy85_5 : FieldTy Try.prog 85 5 5 := ⟨fun _ _ => by kernel_rfl⟩
instance FieldTy85_6 : FieldTy Try.prog 85 6 6 := ⟨fun _ _ => by kernel_rfl⟩
instance FieldTy85_7 : FieldTy Try.prog 85 7 7 := ⟨fun _ _ => by kernel_rfl⟩
instance FieldTy85_8 : FieldTy Try.prog 85 8 8 := ⟨fun _ _ => by kernel_rfl⟩
instance FieldTy85_9 : FieldTy Try.prog 85 9 9 := ⟨fun _ _ => by kernel_rfl⟩
instance FieldTy85_10 : FieldTy Try.prog 85 10 10 := ⟨fun _ _ => by kernel_rfl⟩
instance Elem2 : Elem Try.prog 2 1 8 := ⟨⟨_, _, Ty2, rfl⟩, by decide⟩
instance Elem3 : Elem Try.prog 3 1 8 := ⟨⟨_, _, Ty3, rfl⟩, by decide⟩
instance Elem4 : Elem Try.prog 4 1 1 := ⟨⟨_, _, Ty4, rfl⟩, by decide⟩
instance Elem5 : Elem Try.prog 5 1 1 := ⟨⟨_, _, Ty5, rfl⟩, by decide⟩
instance Elem6 : Elem Try.prog 6 1 1 := ⟨⟨_, _, Ty6, rfl⟩, by decide⟩
instance Elem7 : Elem Try.prog 7 4 24 := ⟨⟨_, _, Ty7, rfl⟩, by decide⟩
instance Elem8 : Elem Try.prog 8 4 24 := ⟨⟨_, _, Ty8, rfl⟩, by decide⟩
instance Elem9 : Elem Try.prog 9 1 16 := ⟨⟨_, _, Ty9, rfl⟩, by decide⟩
instance Elem10 : Elem Try.prog 10 1 16 := ⟨⟨_, _, Ty10, rfl⟩, by decide⟩
instance Elem11 : Elem Try.prog 11 1 16 := ⟨⟨_, _, Ty11, rfl⟩, by decide⟩
instance Elem12 : Elem Try.prog 12 1 8 := ⟨⟨_, _, Ty12, rfl⟩, by decide⟩
instance Elem13 : Elem Try.prog 13 2 24 := ⟨⟨_, _, Ty13, rfl⟩, by decide⟩
instance Elem14 : Elem Try.prog 14 2 24 := ⟨⟨_, _, Ty14, rfl⟩, by decide⟩
instance Elem15 : Elem Try.prog 15 1 8 := ⟨⟨_, _, Ty15, rfl⟩, by decide⟩
instance Elem16 : Elem Try.prog 16 1 8 := ⟨⟨_, _, Ty16, rfl⟩, by decide⟩
instance Elem17 : Elem Try.prog 17 1 8 := ⟨⟨_, _, Ty17, rfl⟩, by decide⟩
instance Elem18 : Elem Try.prog 18 1 8 := ⟨⟨_, _, Ty18, rfl⟩, by decide⟩
instance Elem19 : Elem Try.prog 19 1 8 := ⟨⟨_, _, Ty19, rfl⟩, by decide⟩
instance Elem21 : Elem Try.prog 21 1 4 := ⟨⟨_, _, Ty21, rfl⟩, by decide⟩
instance Elem22 : Elem Try.prog 22 1 24 := ⟨⟨_, _, Ty22, rfl⟩, by decide⟩
instance Elem25 : Elem Try.prog 25 7 64 := ⟨⟨_, _, Ty25, rfl⟩, by decide⟩
instance Elem26 : Elem Try.prog 26 7 64 := ⟨⟨_, _, Ty26, rfl⟩, by decide⟩
instance Elem29 : Elem Try.prog 29 1 8 := ⟨⟨_, _, Ty29, rfl⟩, by decide⟩
instance Elem32 : Elem Try.prog 32 5 48 := ⟨⟨_, _, Ty32, rfl⟩, by decide⟩
instance Elem33 : Elem Try.prog 33 5 48 := ⟨⟨_, _, Ty33, rfl⟩, by decide⟩
instance Elem42 : Elem Try.prog 42 1 24 := ⟨⟨_, _, Ty42, rfl⟩, by decide⟩
instance Elem43 : Elem Try.prog 43 6 56 := ⟨⟨_, _, Ty43, rfl⟩, by decide⟩
instance Elem44 : Elem Try.prog 44 6 56 := ⟨⟨_, _, Ty44, rfl⟩, by decide⟩
instance Elem46 : Elem Try.prog 46 1 24 := ⟨⟨_, _, Ty46, rfl⟩, by decide⟩
instance Elem47 : Elem Try.prog 47 4 48 := ⟨⟨_, _, Ty47, rfl⟩, by decide⟩
instance Elem48 : Elem Try.prog 48 4 48 := ⟨⟨_, _, Ty48, rfl⟩, by decide⟩
instance Elem49 : Elem Try.prog 49 1 24 := ⟨⟨_, _, Ty49, rfl⟩, by decide⟩
instance Elem51 : Elem Try.prog 51 2 16 := ⟨⟨_, _, Ty51, rfl⟩, by decide⟩
instance Elem52 : Elem Try.prog 52 2 16 := ⟨⟨_, _, Ty52, rfl⟩, by decide⟩
instance Elem68 : Elem Try.prog 68 2 16 := ⟨⟨_, _, Ty68, rfl⟩, by decide⟩
instance Elem71 : Elem Try.prog 71 4 40 := ⟨⟨_, _, Ty71, rfl⟩, by decide⟩
instance Elem72 : Elem Try.prog 72 4 40 := ⟨⟨_, _, Ty72, rfl⟩, by decide⟩
instance Elem77 : Elem Try.prog 77 1 4 := ⟨⟨_, _, Ty77, rfl⟩, by decide⟩
instance Elem78 : Elem Try.prog 78 1 1 := ⟨⟨_, _, Ty78, rfl⟩, by decide⟩
instance Elem79 : Elem Try.prog 79 1 1 := ⟨⟨_, _, Ty79, rfl⟩, by decide⟩
instance Elem81 : Elem Try.prog 81 1 8 := ⟨⟨_, _, Ty81, rfl⟩, by decide⟩
instance Elem82 : Elem Try.prog 82 1 4 := ⟨⟨_, _, Ty82, rfl⟩, by decide⟩
instance Elem83 : Elem Try.prog 83 1 4 := ⟨⟨_, _, Ty83, rfl⟩, by decide⟩
instance Elem84 : Elem Try.prog 84 11 48 := ⟨⟨_, _, Ty84, rfl⟩, by decide⟩
instance Elem85 : Elem Try.prog 85 11 48 := ⟨⟨_, _, Ty85, rfl⟩, by decide⟩
instance FnTy3 : FnTy Try.prog 3 := ⟨fun _ _ => by kernel_rfl⟩
instance FnTy4 : FnTy Try.prog 4 := ⟨fun _ _ => by kernel_rfl⟩
instance FnTy5 : FnTy Try.prog 5 := ⟨fun _ _ => by kernel_rfl⟩
instance FnTy6 : FnTy Try.prog 6 := ⟨fun _ _ => by kernel_rfl⟩
instance FnTy7 : FnTy Try.prog 7 := ⟨fun _ _ => by kernel_rfl⟩
instance FnTy8 : FnTy Try.prog 8 := ⟨fun _ _ => by kernel_rfl⟩
instance FnTy9 : FnTy Try.prog 9 := ⟨fun _ _ => by kernel_rfl⟩
instance FnTy10 : FnTy Try.prog 10 := ⟨fun _ _ => by kernel_rfl⟩
instance FnTy11 : FnTy Try.prog 11 := ⟨fun _ _ => by kernel_rfl⟩
instance FnTy12 : FnTy Try.prog 12 := ⟨fun _ _ => by kernel_rfl⟩
instance FnTy13 : FnTy Try.prog 13 := ⟨fun _ _ => by kernel_rfl⟩
instance FnTy14 : FnTy Try.prog 14 := ⟨fun _ _ => by kernel_rfl⟩
instance FnTy15 : FnTy Try.prog 15 := ⟨fun _ _ => by kernel_rfl⟩
instance FnTy16 : FnTy Try.prog 16 := ⟨fun _ _ => by kernel_rfl⟩
instance FnTy17 : FnTy Try.prog 17 := ⟨fun _ _ => by kernel_rfl⟩
instance FnTy18 : FnTy Try.prog 18 := ⟨fun _ _ => by kernel_rfl⟩
instance FnTy19 : FnTy Try.prog 19 := ⟨fun _ _ => by kernel_rfl⟩
instance FnTy20 : FnTy Try.prog 20 := ⟨fun _ _ => by kernel_rfl⟩
instance FnTy21 : FnTy Try.prog 21 := ⟨fun _ _ => by kernel_rfl⟩
instance FnTy22 : FnTy Try.prog 22 := ⟨fun _ _ => by kernel_rfl⟩
instance FnTy23 : FnTy Try.prog 23 := ⟨fun _ _ => by kernel_rfl⟩
instance FnTy24 : FnTy Try.prog 24 := ⟨fun _ _ => by kernel_rfl⟩
instance FnTy25 : FnTy Try.prog 25 := ⟨fun _ _ => by kernel_rfl⟩
instance FnTy26 : FnTy Try.prog 26 := ⟨fun _ _ => by kernel_rfl⟩
instance FnTy27 : FnTy Try.prog 27 := ⟨fun _ _ => by kernel_rfl⟩
instance FnTy28 : FnTy Try.prog 28 := ⟨fun _ _ => by kernel_rfl⟩
instance FnTy29 : FnTy Try.prog 29 := ⟨fun _ _ => by kernel_rfl⟩
instance FnTy30 : FnTy Try.prog 30 := ⟨fun _ _ => by kernel_rfl⟩
instance FnTy31 : FnTy Try.prog 31 := ⟨fun _ _ => by kernel_rfl⟩
instance FnTy32 : FnTy Try.prog 32 := ⟨fun _ _ => by kernel_rfl⟩
instance FnTy33 : FnTy Try.prog 33 := ⟨fun _ _ => by kernel_rfl⟩
instance FnTy34 : FnTy Try.prog 34 := ⟨fun _ _ => by kernel_rfl⟩
instance FnTy35 : FnTy Try.prog 35 := ⟨fun _ _ => by kernel_rfl⟩
instance FnTy36 : FnTy Try.prog 36 := ⟨fun _ _ => by kernel_rfl⟩
instance FnTy37 : FnTy Try.prog 37 := ⟨fun _ _ => by kernel_rfl⟩
instance FnTy38 : FnTy Try.prog 38 := ⟨fun _ _ => by kernel_rfl⟩
instance FnTy39 : FnTy Try.prog 39 := ⟨fun _ _ => by kernel_rfl⟩
instance FnTy40 : FnTy Try.prog 40 := ⟨fun _ _ => by kernel_rfl⟩
theorem mixed : Try.prog.follows .mixedOrders = true := by kernel_rfl
end Go.Proofs.Ytnlmpgnjhdeejaa
