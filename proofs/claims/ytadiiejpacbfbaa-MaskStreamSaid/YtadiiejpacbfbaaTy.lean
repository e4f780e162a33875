/- The program's tables as instances. Printed by a program of ours (wip/tools/gen_ty.py). -/
import Derived.Test.YtadiiejpacbfbaaChecked
import Derived.Test.YtadiiejpacbfbaaC25
namespace Go.Proofs.Ytadiiejpacbfbaa
open Go Go.Sym
instance Ty2 : Ty Try.prog 2 false 1 8 (.int .i64 0) := ⟨by kernel_rfl, by kernel_rfl⟩
instance IntTy2 : IntTy Try.prog 2 .i64 := ⟨by kernel_rfl⟩
instance Ty3 : Ty Try.prog 3 false 1 8 (.int .i64 0) := ⟨by kernel_rfl, by kernel_rfl⟩
instance IntTy3 : IntTy Try.prog 3 .i64 := ⟨by kernel_rfl⟩
instance Ty4 : Ty Try.prog 4 false 1 1 (.bool false) := ⟨by kernel_rfl, by kernel_rfl⟩
instance BoolTy4 : BoolTy Try.prog 4 := ⟨by kernel_rfl⟩
instance Ty5 : Ty Try.prog 5 false 1 1 (.int .u8 0) := ⟨by kernel_rfl, by kernel_rfl⟩
instance IntTy5 : IntTy Try.prog 5 .u8 := ⟨by kernel_rfl⟩
instance Ty6 : Ty Try.prog 6 false 1 1 (.int .u8 0) := ⟨by kernel_rfl, by kernel_rfl⟩
instance IntTy6 : IntTy Try.prog 6 .u8 := ⟨by kernel_rfl⟩
instance Ty7 : Ty Try.prog 7 true 4 24 (.agg #[.int .i64 0, .int .i64 0, .bool false, .int .u8 0]) := ⟨by kernel_rfl, by kernel_rfl⟩
instance StructTy7 : StructTy Try.prog 7 [2, 3, 4, 6] := ⟨by kernel_rfl, by kernel_rfl⟩
instance BuildTy7 : BuildTy Try.prog 7 [(0, 1), (1, 1), (2, 1), (3, 1)] := ⟨by kernel_rfl, fun _ => by kernel_rfl⟩
instance FieldTy7_0 : FieldTy Try.prog 7 0 0 := ⟨fun _ _ => by kernel_rfl⟩
instance FieldTy7_1 : FieldTy Try.prog 7 1 1 := ⟨fun _ _ => by kernel_rfl⟩
instance FieldTy7_2 : FieldTy Try.prog 7 2 2 := ⟨fun _ _ => by kernel_rfl⟩
instance FieldTy7_3 : FieldTy Try.prog 7 3 3 := ⟨fun _ _ => by kernel_rfl⟩
instance Ty8 : Ty Try.prog 8 true 4 24 (.agg #[.int .i64 0, .int .i64 0, .bool false, .int .u8 0]) := ⟨by kernel_rfl, by kernel_rfl⟩
instance StructTy8 : StructTy Try.prog 8 [2, 3, 4, 6] := ⟨by kernel_rfl, by kernel_rfl⟩
instance BuildTy8 : BuildTy Try.prog 8 [(0, 1), (1, 1), (2, 1), (3, 1)] := ⟨by kernel_rfl, fun _ => by kernel_rfl⟩
instance FieldTy8_0 : FieldTy Try.prog 8 0 0 := ⟨fun _ _ => by kernel_rfl⟩
instance FieldTy8_1 : FieldTy Try.prog 8 1 1 := ⟨fun _ _ => by kernel_rfl⟩
instance FieldTy8_2 : FieldTy Try.prog 8 2 2 := ⟨fun _ _ => by kernel_rfl⟩
instance FieldTy8_3 : FieldTy Try.prog 8 3 3 := ⟨fun _ _ => by kernel_rfl⟩
instance Ty9 : Ty Try.prog 9 false 1 16 (.string ByteArray.empty) := ⟨by kernel_rfl, by kernel_rfl⟩
instance StrTy9 : StrTy Try.prog 9 := ⟨by kernel_rfl⟩
instance Ty10 : Ty Try.prog 10 false 1 16 (.string ByteArray.empty) := ⟨by kernel_rfl, by kernel_rfl⟩
instance StrTy10 : StrTy Try.prog 10 := ⟨by kernel_rfl⟩
instance Ty11 : Ty Try.prog 11 false 1 16 (.string ByteArray.empty) := ⟨by kernel_rfl, by kernel_rfl⟩
instance StrTy11 : StrTy Try.prog 11 := ⟨by kernel_rfl⟩
instance Ty12 : Ty Try.prog 12 false 1 8 (.int .u64 0) := ⟨by kernel_rfl, by kernel_rfl⟩
instance IntTy12 : IntTy Try.prog 12 .u64 := ⟨by kernel_rfl⟩
instance Ty13 : Ty Try.prog 13 true 2 24 (.agg #[.string ByteArray.empty, .int .u64 0]) := ⟨by kernel_rfl, by kernel_rfl⟩
instance StructTy13 : StructTy Try.prog 13 [9, 12] := ⟨by kernel_rfl, by kernel_rfl⟩
instance BuildTy13 : BuildTy Try.prog 13 [(0, 1), (1, 1)] := ⟨by kernel_rfl, fun _ => by kernel_rfl⟩
instance FieldTy13_0 : FieldTy Try.prog 13 0 0 := ⟨fun _ _ => by kernel_rfl⟩
instance FieldTy13_1 : FieldTy Try.prog 13 1 1 := ⟨fun _ _ => by kernel_rfl⟩
instance Ty14 : Ty Try.prog 14 true 2 24 (.agg #[.string ByteArray.empty, .int .u64 0]) := ⟨by kernel_rfl, by kernel_rfl⟩
instance StructTy14 : StructTy Try.prog 14 [9, 12] := ⟨by kernel_rfl, by kernel_rfl⟩
instance BuildTy14 : BuildTy Try.prog 14 [(0, 1), (1, 1)] := ⟨by kernel_rfl, fun _ => by kernel_rfl⟩
instance FieldTy14_0 : FieldTy Try.prog 14 0 0 := ⟨fun _ _ => by kernel_rfl⟩
instance FieldTy14_1 : FieldTy Try.prog 14 1 1 := ⟨fun _ _ => by kernel_rfl⟩
instance Ty15 : Ty Try.prog 15 false 1 8 (.pointer none) := ⟨by kernel_rfl, by kernel_rfl⟩
instance Ty16 : Ty Try.prog 16 false 1 8 (.pointer none) := ⟨by kernel_rfl, by kernel_rfl⟩
instance Ty17 : Ty Try.prog 17 false 1 8 (.pointer none) := ⟨by kernel_rfl, by kernel_rfl⟩
instance Ty18 : Ty Try.prog 18 true 1 8 (.agg #[.pointer none]) := ⟨by kernel_rfl, by kernel_rfl⟩
instance StructTy18 : StructTy Try.prog 18 [17] := ⟨by kernel_rfl, by kernel_rfl⟩
instance BuildTy18 : BuildTy Try.prog 18 [(0, 1)] := ⟨by kernel_rfl, fun _ => by kernel_rfl⟩
instance FieldTy18_0 : FieldTy Try.prog 18 0 0 := ⟨fun _ _ => by kernel_rfl⟩
instance Ty19 : Ty Try.prog 19 true 1 8 (.agg #[.pointer none]) := ⟨by kernel_rfl, by kernel_rfl⟩
instance StructTy19 : StructTy Try.prog 19 [17] := ⟨by kernel_rfl, by kernel_rfl⟩
instance BuildTy19 : BuildTy Try.prog 19 [(0, 1)] := ⟨by kernel_rfl, fun _ => by kernel_rfl⟩
instance FieldTy19_0 : FieldTy Try.prog 19 0 0 := ⟨fun _ _ => by kernel_rfl⟩
instance Ty21 : Ty Try.prog 21 false 1 4 (.int .i32 0) := ⟨by kernel_rfl, by kernel_rfl⟩
instance IntTy21 : IntTy Try.prog 21 .i32 := ⟨by kernel_rfl⟩
instance Ty22 : Ty Try.prog 22 false 1 24 (.slice none 0 0) := ⟨by kernel_rfl, by kernel_rfl⟩
instance SliceTy22 : SliceTy Try.prog 22 28 := ⟨by kernel_rfl⟩
instance Ty26 : Ty Try.prog 26 false 1 24 (.slice none 0 0) := ⟨by kernel_rfl, by kernel_rfl⟩
instance SliceTy26 : SliceTy Try.prog 26 9 := ⟨by kernel_rfl⟩
instance Ty27 : Ty Try.prog 27 true 5 88 (.agg #[.string ByteArray.empty, .string ByteArray.empty, .int .i64 0, .slice none 0 0, .slice none 0 0]) := ⟨by kernel_rfl, by kernel_rfl⟩
instance StructTy27 : StructTy Try.prog 27 [9, 9, 3, 26, 26] := ⟨by kernel_rfl, by kernel_rfl⟩
instance BuildTy27 : BuildTy Try.prog 27 [(0, 1), (1, 1), (2, 1), (3, 1), (4, 1)] := ⟨by kernel_rfl, fun _ => by kernel_rfl⟩
instance FieldTy27_0 : FieldTy Try.prog 27 0 0 := ⟨fun _ _ => by kernel_rfl⟩
instance FieldTy27_1 : FieldTy Try.prog 27 1 1 := ⟨fun _ _ => by kernel_rfl⟩
instance FieldTy27_2 : FieldTy Try.prog 27 2 2 := ⟨fun _ _ => by kernel_rfl⟩
instance FieldTy27_3 : FieldTy Try.prog 27 3 3 := ⟨fun _ _ => by kernel_rfl⟩
instance FieldTy27_4 : FieldTy Try.prog 27 4 4 := ⟨fun _ _ => by kernel_rfl⟩
instance Ty28 : Ty Try.prog 28 true 5 88 (.agg #[.string ByteArray.empty, .string ByteArray.empty, .int .i64 0, .slice none 0 0, .slice none 0 0]) := ⟨by kernel_rfl, by kernel_rfl⟩
instance StructTy28 : StructTy Try.prog 28 [9, 9, 3, 26, 26] := ⟨by kernel_rfl, by kernel_rfl⟩
instance BuildTy28 : BuildTy Try.prog 28 [(0, 1), (1, 1), (2, 1), (3, 1), (4, 1)] := ⟨by kernel_rfl, fun _ => by kernel_rfl⟩
instance FieldTy28_0 : FieldTy Try.prog 28 0 0 := ⟨fun _ _ => by kernel_rfl⟩
instance FieldTy28_1 : FieldTy Try.prog 28 1 1 := ⟨fun _ _ => by kernel_rfl⟩
instance FieldTy28_2 : FieldTy Try.prog 28 2 2 := ⟨fun _ _ => by kernel_rfl⟩
instance FieldTy28_3 : FieldTy Try.prog 28 3 3 := ⟨fun _ _ => by kernel_rfl⟩
instance FieldTy28_4 : FieldTy Try.prog 28 4 4 := ⟨fun _ _ => by kernel_rfl⟩
instance Ty29 : Ty Try.prog 29 true 2 40 (.agg #[.slice none 0 0, .string ByteArray.empty]) := ⟨by kernel_rfl, by kernel_rfl⟩
instance StructTy29 : StructTy Try.prog 29 [26, 9] := ⟨by kernel_rfl, by kernel_rfl⟩
instance BuildTy29 : BuildTy Try.prog 29 [(0, 1), (1, 1)] := ⟨by kernel_rfl, fun _ => by kernel_rfl⟩
instance FieldTy29_0 : FieldTy Try.prog 29 0 0 := ⟨fun _ _ => by kernel_rfl⟩
instance FieldTy29_1 : FieldTy Try.prog 29 1 1 := ⟨fun _ _ => by kernel_rfl⟩
instance Ty30 : Ty Try.prog 30 true 2 40 (.agg #[.slice none 0 0, .string ByteArray.empty]) := ⟨by kernel_rfl, by kernel_rfl⟩
instance StructTy30 : StructTy Try.prog 30 [26, 9] := ⟨by kernel_rfl, by kernel_rfl⟩
instance BuildTy30 : BuildTy Try.prog 30 [(0, 1), (1, 1)] := ⟨by kernel_rfl, fun _ => by kernel_rfl⟩
instance FieldTy30_0 : FieldTy Try.prog 30 0 0 := ⟨fun _ _ => by kernel_rfl⟩
instance FieldTy30_1 : FieldTy Try.prog 30 1 1 := ⟨fun _ _ => by kernel_rfl⟩
instance Ty50 : Ty Try.prog 50 false 1 8 (.pointer none) := ⟨by kernel_rfl, by kernel_rfl⟩
instance Ty51 : Ty Try.prog 51 false 1 24 (.slice none 0 0) := ⟨by kernel_rfl, by kernel_rfl⟩
instance SliceTy51 : SliceTy Try.prog 51 5 := ⟨by kernel_rfl⟩
instance Ty52 : Ty Try.prog 52 true 2 32 (.agg #[.pointer none, .slice none 0 0]) := ⟨by kernel_rfl, by kernel_rfl⟩
instance StructTy52 : StructTy Try.prog 52 [50, 51] := ⟨by kernel_rfl, by kernel_rfl⟩
instance BuildTy52 : BuildTy Try.prog 52 [(0, 1), (1, 1)] := ⟨by kernel_rfl, fun _ => by kernel_rfl⟩
instance FieldTy52_0 : FieldTy Try.prog 52 0 0 := ⟨fun _ _ => by kernel_rfl⟩
instance FieldTy52_1 : FieldTy Try.prog 52 1 1 := ⟨fun _ _ => by kernel_rfl⟩
instance Ty53 : Ty Try.prog 53 true 2 32 (.agg #[.pointer none, .slice none 0 0]) := ⟨by kernel_rfl, by kernel_rfl⟩
instance StructTy53 : StructTy Try.prog 53 [50, 51] := ⟨by kernel_rfl, by kernel_rfl⟩
instance BuildTy53 : BuildTy Try.prog 53 [(0, 1), (1, 1)] := ⟨by kernel_rfl, fun _ => by kernel_rfl⟩
instance FieldTy53_0 : FieldTy Try.prog 53 0 0 := ⟨fun _ _ => by kernel_rfl⟩
instance FieldTy53_1 : FieldTy Try.prog 53 1 1 := ⟨fun _ _ => by kernel_rfl⟩
instance Ty65 : Ty Try.prog 65 false 1 8 (.pointer none) := ⟨by kernel_rfl, by kernel_rfl⟩
instance Ty71 : Ty Try.prog 71 false 1 8 (.int .u64 0) := ⟨by kernel_rfl, by kernel_rfl⟩
instance IntTy71 : IntTy Try.prog 71 .u64 := ⟨by kernel_rfl⟩
instance Ty72 : Ty Try.prog 72 false 1 4 (.int .u32 0) := ⟨by kernel_rfl, by kernel_rfl⟩
instance IntTy72 : IntTy Try.prog 72 .u32 := ⟨by kernel_rfl⟩
instance Ty75 : Ty Try.prog 75 true 4 40 (.agg #[.pointer none, .pointer none, .pointer none, .string ByteArray.empty]) := ⟨by kernel_rfl, by kernel_rfl⟩
instance StructTy75 : StructTy Try.prog 75 [17, 17, 17, 9] := ⟨by kernel_rfl, by kernel_rfl⟩
instance BuildTy75 : BuildTy Try.prog 75 [(0, 1), (1, 1), (2, 1), (3, 1)] := ⟨by kernel_rfl, fun _ => by kernel_rfl⟩
instance FieldTy75_0 : FieldTy Try.prog 75 0 0 := ⟨fun _ _ => by kernel_rfl⟩
instance FieldTy75_1 : FieldTy Try.prog 75 1 1 := ⟨fun _ _ => by kernel_rfl⟩
instance FieldTy75_2 : FieldTy Try.prog 75 2 2 := ⟨fun _ _ => by kernel_rfl⟩
instance FieldTy75_3 : FieldTy Try.prog 75 3 3 := ⟨fun _ _ => by kernel_rfl⟩
instance Ty76 : Ty Try.prog 76 true 4 40 (.agg #[.pointer none, .pointer none, .pointer none, .string ByteArray.empty]) := ⟨by kernel_rfl, by kernel_rfl⟩
instance StructTy76 : StructTy Try.prog 76 [17, 17, 17, 9] := ⟨by kernel_rfl, by kernel_rfl⟩
instance BuildTy76 : BuildTy Try.prog 76 [(0, 1), (1, 1), (2, 1), (3, 1)] := ⟨by kernel_rfl, fun _ => by kernel_rfl⟩
instance FieldTy76_0 : FieldTy Try.prog 76 0 0 := ⟨fun _ _ => by kernel_rfl⟩
instance FieldTy76_1 : FieldTy Try.prog 76 1 1 := ⟨fun _ _ => by kernel_rfl⟩
instance FieldTy76_2 : FieldTy Try.prog 76 2 2 := ⟨fun _ _ => by kernel_rfl⟩
instance FieldTy76_3 : FieldTy Try.prog 76 3 3 := ⟨fun _ _ => by kernel_rfl⟩
instance Ty77 : Ty Try.prog 77 true 0 0 (.agg #[]) := ⟨by kernel_rfl, by kernel_rfl⟩
instance ArrayTy77 : ArrayTy Try.prog 77 0 16 := ⟨by kernel_rfl⟩
instance Ty78 : Ty Try.prog 78 true 0 0 (.agg #[]) := ⟨by kernel_rfl, by kernel_rfl⟩
instance StructTy78 : StructTy Try.prog 78 [77] := ⟨by kernel_rfl, by kernel_rfl⟩
instance BuildTy78 : BuildTy Try.prog 78 [(0, 0)] := ⟨by kernel_rfl, fun _ => by kernel_rfl⟩
instance Ty79 : Ty Try.prog 79 true 0 0 (.agg #[]) := ⟨by kernel_rfl, by kernel_rfl⟩
instance StructTy79 : StructTy Try.prog 79 [77] := ⟨by kernel_rfl, by kernel_rfl⟩
instance BuildTy79 : BuildTy Try.prog 79 [(0, 0)] := ⟨by kernel_rfl, fun _ => by kernel_rfl⟩
instance Ty81 : Ty Try.prog 81 false 1 1 (.int .u8 0) := ⟨by kernel_rfl, by kernel_rfl⟩
instance IntTy81 : IntTy Try.prog 81 .u8 := ⟨by kernel_rfl⟩
instance Ty82 : Ty Try.prog 82 false 1 1 (.int .u8 0) := ⟨by kernel_rfl, by kernel_rfl⟩
instance IntTy82 : IntTy Try.prog 82 .u8 := ⟨by kernel_rfl⟩
instance Ty84 : Ty Try.prog 84 false 1 4 (.int .i32 0) := ⟨by kernel_rfl, by kernel_rfl⟩
instance IntTy84 : IntTy Try.prog 84 .i32 := ⟨by kernel_rfl⟩
instance Ty85 : Ty Try.prog 85 false 1 4 (.int .i32 0) := ⟨by kernel_rfl, by kernel_rfl⟩
instance IntTy85 : IntTy Try.prog 85 .i32 := ⟨by kernel_rfl⟩
instance Ty86 : Ty Try.prog 86 true 11 48 (.agg #[.int .u64 0, .int .u64 0, .int .u32 0, .int .u8 0, .int .u8 0, .int .u8 0, .int .u8 0, .nilFunc, .pointer none, .int .i32 0, .int .i32 0]) := ⟨by kernel_rfl, by kernel_rfl⟩
instance StructTy86 : StructTy Try.prog 86 [12, 12, 72, 81, 5, 5, 82, 83, 65, 84, 85] := ⟨by kernel_rfl, by kernel_rfl⟩
instance BuildTy86 : BuildTy Try.prog 86 [(0, 1), (1, 1), (2, 1), (3, 1), (4, 1), (5, 1), (6, 1), (7, 1), (8, 1), (9, 1), (10, 1)] := ⟨by kernel_rfl, fun _ => by kernel_rfl⟩
instance FieldTy86_0 : FieldTy Try.prog 86 0 0 := ⟨fun _ _ => by kernel_rfl⟩
instance FieldTy86_1 : FieldTy Try.prog 86 1 1 := ⟨fun _ _ => by kernel_rfl⟩
instance FieldTy86_2 : FieldTy Try.prog 86 2 2 := ⟨fun _ _ => by kernel_rfl⟩
instance FieldTy86_3 : FieldTy Try.prog 86 3 3 := ⟨fun _ _ => by kernel_rfl⟩
instance FieldTy86_4 : FieldTy Try.prog 86 4 4 := ⟨fun _ _ => by kernel_rfl⟩
instance FieldTy86_5 : FieldTy Try.prog 86 5 5 := ⟨fun _ _ => by kernel_rfl⟩
instance FieldTy86_6 : FieldTy Try.prog 86 6 6 := ⟨fun _ _ => by kernel_rfl⟩
instance FieldTy86_7 : FieldTy Try.prog 86 7 7 := ⟨fun _ _ => by kernel_rfl⟩
instance FieldTy86_8 : FieldTy Try.prog 86 8 8 := ⟨fun _ _ => by kernel_rfl⟩
instance FieldTy86_9 : FieldTy Try.prog 86 9 9 := ⟨fun _ _ => by kernel_rfl⟩
instance FieldTy86_10 : FieldTy Try.prog 86 10 10 := ⟨fun _ _ => by kernel_rfl⟩
instance Ty87 : Ty Try.prog 87 true 11 48 (.agg #[.int .u64 0, .int .u64 0, .int .u32 0, .int .u8 0, .int .u8 0, .int .u8 0, .int .u8 0, .nilFunc, .pointer none, .int .i32 0, .int .i32 0]) := ⟨by kernel_rfl, by kernel_rfl⟩
instance StructTy87 : StructTy Try.prog 87 [12, 12, 72, 81, 5, 5, 82, 83, 65, 84, 85] := ⟨by kernel_rfl, by kernel_rfl⟩
instance BuildTy87 : BuildTy Try.prog 87 [(0, 1), (1, 1), (2, 1), (3, 1), (4, 1), (5, 1), (6, 1), (7, 1), (8, 1), (9, 1), (10, 1)] := ⟨by kernel_rfl, fun _ => by kernel_rfl⟩
instance FieldTy87_0 : FieldTy Try.prog 87 0 0 := ⟨fun _ _ => by kernel_rfl⟩
instance FieldTy87_1 : FieldTy Try.prog 87 1 1 := ⟨fun _ _ => by kernel_rfl⟩
instance FieldTy87_2 : FieldTy Try.prog 87 2 2 := ⟨fun _ _ => by kernel_rfl⟩
instance FieldTy87_3 : FieldTy Try.prog 87 3 3 := ⟨fun _ _ => by kernel_rfl⟩
instance FieldTy87_4 : FieldTy Try.prog 87 4 4 := ⟨fun _ _ => by kernel_rfl⟩
instance FieldTy87_5 : FieldTy Try.prog 87 5 5 := ⟨fun _ _ => by kernel_rfl⟩
instance FieldTy87_6 : FieldTy Try.prog 87 6 6 := ⟨fun _ _ => by kernel_rfl⟩
instance FieldTy87_7 : FieldTy Try.prog 87 7 7 := ⟨fun _ _ => by kernel_rfl⟩
instance FieldTy87_8 : FieldTy Try.prog 87 8 8 := ⟨fun _ _ => by kernel_rfl⟩
instance FieldTy87_9 : FieldTy Try.prog 87 9 9 := ⟨fun _ _ => by kernel_rfl⟩
instance FieldTy87_10 : FieldTy Try.prog 87 10 10 := ⟨fun _ _ => by kernel_rfl⟩
instance Elem2 : Elem Try.prog 2 1 8 := ⟨⟨_, _, Ty2, rfl⟩, by decide⟩
instance Elem3 : Elem Try.prog 3 1 8 := ⟨⟨_, _, Ty3, rfl⟩, by decide⟩
instance Elem4 : Elem Try.prog 4 1 1 := ⟨⟨_, _, Ty4, rfl⟩, by decide⟩
instance Elem5 : Elem Try.prog 5 1 1 := ⟨⟨_, _, Ty5, rfl⟩, by decide⟩
instance Elem6 : Elem Try.prog 6 1 1 := ⟨⟨_, _, Ty6, rfl⟩, by decide⟩
instance Elem7 : Elem Try.prog 7 4 24 := ⟨⟨_, _, Ty7, rfl⟩, by decide⟩
instance Elem8 : Elem Try.prog 8 4 24 := ⟨⟨_, _, Ty8, rfl⟩, by decide⟩
instance Elem9 : Elem Try.prog 9 1 16 := ⟨⟨_, _, Ty9, rfl⟩, by decide⟩
instance Elem10 : Elem Try.prog 10 1 16 := ⟨⟨_, _, Ty10, rfl⟩, by decide⟩
instance Elem11 : Elem Try.prog 11 1 16 := ⟨⟨_, _, Ty11, rfl⟩, by decide⟩
instance Elem12 : Elem Try.prog 12 1 8 := ⟨⟨_, _, Ty12, rfl⟩, by decide⟩
instance Elem13 : Elem Try.prog 13 2 24 := ⟨⟨_, _, Ty13, rfl⟩, by decide⟩
instance Elem14 : Elem Try.prog 14 2 24 := ⟨⟨_, _, Ty14, rfl⟩, by decide⟩
instance Elem15 : Elem Try.prog 15 1 8 := ⟨⟨_, _, Ty15, rfl⟩, by decide⟩
instance Elem16 : Elem Try.prog 16 1 8 := ⟨⟨_, _, Ty16, rfl⟩, by decide⟩
instance Elem17 : Elem Try.prog 17 1 8 := ⟨⟨_, _, Ty17, rfl⟩, by decide⟩
instance Elem18 : Elem Try.prog 18 1 8 := ⟨⟨_, _, Ty18, rfl⟩, by decide⟩
instance Elem19 : Elem Try.prog 19 1 8 := ⟨⟨_, _, Ty19, rfl⟩, by decide⟩
instance Elem21 : Elem Try.prog 21 1 4 := ⟨⟨_, _, Ty21, rfl⟩, by decide⟩
instance Elem22 : Elem Try.prog 22 1 24 := ⟨⟨_, _, Ty22, rfl⟩, by decide⟩
instance Elem26 : Elem Try.prog 26 1 24 := ⟨⟨_, _, Ty26, rfl⟩, by decide⟩
instance Elem27 : Elem Try.prog 27 5 88 := ⟨⟨_, _, Ty27, rfl⟩, by decide⟩
instance Elem28 : Elem Try.prog 28 5 88 := ⟨⟨_, _, Ty28, rfl⟩, by decide⟩
instance Elem29 : Elem Try.prog 29 2 40 := ⟨⟨_, _, Ty29, rfl⟩, by decide⟩
instance Elem30 : Elem Try.prog 30 2 40 := ⟨⟨_, _, Ty30, rfl⟩, by decide⟩
instance Elem50 : Elem Try.prog 50 1 8 := ⟨⟨_, _, Ty50, rfl⟩, by decide⟩
instance Elem51 : Elem Try.prog 51 1 24 := ⟨⟨_, _, Ty51, rfl⟩, by decide⟩
instance Elem52 : Elem Try.prog 52 2 32 := ⟨⟨_, _, Ty52, rfl⟩, by decide⟩
instance Elem53 : Elem Try.prog 53 2 32 := ⟨⟨_, _, Ty53, rfl⟩, by decide⟩
instance Elem65 : Elem Try.prog 65 1 8 := ⟨⟨_, _, Ty65, rfl⟩, by decide⟩
instance Elem71 : Elem Try.prog 71 1 8 := ⟨⟨_, _, Ty71, rfl⟩, by decide⟩
instance Elem72 : Elem Try.prog 72 1 4 := ⟨⟨_, _, Ty72, rfl⟩, by decide⟩
instance Elem75 : Elem Try.prog 75 4 40 := ⟨⟨_, _, Ty75, rfl⟩, by decide⟩
instance Elem76 : Elem Try.prog 76 4 40 := ⟨⟨_, _, Ty76, rfl⟩, by decide⟩
instance Elem81 : Elem Try.prog 81 1 1 := ⟨⟨_, _, Ty81, rfl⟩, by decide⟩
instance Elem82 : Elem Try.prog 82 1 1 := ⟨⟨_, _, Ty82, rfl⟩, by decide⟩
instance Elem84 : Elem Try.prog 84 1 4 := ⟨⟨_, _, Ty84, rfl⟩, by decide⟩
instance Elem85 : Elem Try.prog 85 1 4 := ⟨⟨_, _, Ty85, rfl⟩, by decide⟩
instance Elem86 : Elem Try.prog 86 11 48 := ⟨⟨_, _, Ty86, rfl⟩, by decide⟩
instance Elem87 : Elem Try.prog 87 11 48 := ⟨⟨_, _, Ty87, rfl⟩, by decide⟩
instance FnTy3 : FnTy Try.prog 3 := ⟨fun _ _ => by kernel_rfl⟩
instance FnTy4 : FnTy Try.prog 4 := ⟨fun _ _ => by kernel_rfl⟩
instance FnTy5 : FnTy Try.prog 5 := ⟨fun _ _ => by kernel_rfl⟩
instance FnTy6 : FnTy Try.prog 6 := ⟨fun _ _ => by kernel_rfl⟩
instance FnTy7 : FnTy Try.prog 7 := ⟨fun _ _ => by kernel_rfl⟩
instance FnTy8 : FnTy Try.prog 8 := ⟨fun _ _ => by kernel_rfl⟩
instance FnTy9 : FnTy Try.prog 9 := ⟨fun _ _ => by kernel_rfl⟩
instance FnTy10 : FnTy Try.prog 10 := ⟨fun _ _ => by kernel_rfl⟩
instance FnTy11 : FnTy Try.prog 11 := ⟨fun _ _ => by kernel_rfl⟩
instance FnTy12 : FnTy Try.prog 12 := ⟨fun _ _ => by kernel_rfl⟩
instance FnTy13 : FnTy Try.prog 13 := ⟨fun _ _ => by kernel_rfl⟩
instance FnTy14 : FnTy Try.prog 14 := ⟨fun _ _ => by kernel_rfl⟩
instance FnTy15 : FnTy Try.prog 15 := ⟨fun _ _ => by kernel_rfl⟩
instance FnTy16 : FnTy Try.prog 16 := ⟨fun _ _ => by kernel_rfl⟩
instance FnTy17 : FnTy Try.prog 17 := ⟨fun _ _ => by kernel_rfl⟩
instance FnTy18 : FnTy Try.prog 18 := ⟨fun _ _ => by kernel_rfl⟩
instance FnTy19 : FnTy Try.prog 19 := ⟨fun _ _ => by kernel_rfl⟩
instance FnTy20 : FnTy Try.prog 20 := ⟨fun _ _ => by kernel_rfl⟩
instance FnTy21 : FnTy Try.prog 21 := ⟨fun _ _ => by kernel_rfl⟩
instance FnTy22 : FnTy Try.prog 22 := ⟨fun _ _ => by kernel_rfl⟩
instance FnTy23 : FnTy Try.prog 23 := ⟨fun _ _ => by kernel_rfl⟩
instance FnTy24 : FnTy Try.prog 24 := ⟨fun _ _ => by kernel_rfl⟩
instance FnTy25 : FnTy Try.prog 25 := ⟨fun _ _ => by kernel_rfl⟩
instance FnTy26 : FnTy Try.prog 26 := ⟨fun _ _ => by kernel_rfl⟩
instance FnTy27 : FnTy Try.prog 27 := ⟨fun _ _ => by kernel_rfl⟩
instance FnTy28 : FnTy Try.prog 28 := ⟨fun _ _ => by kernel_rfl⟩
instance FnTy29 : FnTy Try.prog 29 := ⟨fun _ _ => by kernel_rfl⟩
instance FnTy30 : FnTy Try.prog 30 := ⟨fun _ _ => by kernel_rfl⟩
instance FnTy31 : FnTy Try.prog 31 := ⟨fun _ _ => by kernel_rfl⟩
instance FnTy32 : FnTy Try.prog 32 := ⟨fun _ _ => by kernel_rfl⟩
instance FnTy33 : FnTy Try.prog 33 := ⟨fun _ _ => by kernel_rfl⟩
instance FnTy34 : FnTy Try.prog 34 := ⟨fun _ _ => by kernel_rfl⟩
instance FnTy35 : FnTy Try.prog 35 := ⟨fun _ _ => by kernel_rfl⟩
instance FnTy36 : FnTy Try.prog 36 := ⟨fun _ _ => by kernel_rfl⟩
instance FnTy37 : FnTy Try.prog 37 := ⟨fun _ _ => by kernel_rfl⟩
instance FnTy38 : FnTy Try.prog 38 := ⟨fun _ _ => by kernel_rfl⟩
instance FnTy39 : FnTy Try.prog 39 := ⟨fun _ _ => by kernel_rfl⟩
instance FnTy40 : FnTy Try.prog 40 := ⟨fun _ _ => by kernel_rfl⟩
instance FnTy41 : FnTy Try.prog 41 := ⟨fun _ _ => by kernel_rfl⟩
instance FnTy42 : FnTy Try.prog 42 := ⟨fun _ _ => by kernel_rfl⟩
instance FnTy43 : FnTy Try.prog 43 := ⟨fun _ _ => by kernel_rfl⟩
instance FnTy44 : FnTy Try.prog 44 := ⟨fun _ _ => by kernel_rfl⟩
instance FnTy45 : FnTy Try.prog 45 := ⟨fun _ _ => by kernel_rfl⟩
theorem mixed : Try.prog.follows .mixedOrders = true := by kernel_rfl
end Go.Proofs.Ytadiiejpacbfbaa
