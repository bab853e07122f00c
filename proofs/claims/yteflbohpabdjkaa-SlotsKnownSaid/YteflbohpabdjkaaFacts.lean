/-
  Made by program: what the translation's tables say of the types and functions that its code uses.
-/
import Derived.Test.YteflbohpabdjkaaProg
import Derived.Test.YteflbohpabdjkaaMwB
import Derived.KernelRfl
namespace Go.Proofs.Yteflbohpabdjkaa
open Go Go.Mw
instance oc_1 : OneCell Try.prog 1 := ⟨fun _ => by kernel_rfl, fun _ => by kernel_rfl⟩
instance ze_1 : Zero Try.prog 1 (Value.nilFunc) := ⟨fun _ => by kernel_rfl⟩
instance ce_1 : Cells Try.prog 1 1 8 := ⟨by kernel_rfl⟩
instance oc_2 : OneCell Try.prog 2 := ⟨fun _ => by kernel_rfl, fun _ => by kernel_rfl⟩
instance ze_2 : Zero Try.prog 2 (Value.int .i64 0) := ⟨fun _ => by kernel_rfl⟩
instance ce_2 : Cells Try.prog 2 1 8 := ⟨by kernel_rfl⟩
instance in_2 : IsInt Try.prog 2 .i64 := ⟨by kernel_rfl⟩
instance oc_3 : OneCell Try.prog 3 := ⟨fun _ => by kernel_rfl, fun _ => by kernel_rfl⟩
instance ze_3 : Zero Try.prog 3 (Value.int .i64 0) := ⟨fun _ => by kernel_rfl⟩
instance ce_3 : Cells Try.prog 3 1 8 := ⟨by kernel_rfl⟩
instance in_3 : IsInt Try.prog 3 .i64 := ⟨by kernel_rfl⟩
instance oc_4 : OneCell Try.prog 4 := ⟨fun _ => by kernel_rfl, fun _ => by kernel_rfl⟩
instance ze_4 : Zero Try.prog 4 (Value.bool false) := ⟨fun _ => by kernel_rfl⟩
instance ce_4 : Cells Try.prog 4 1 1 := ⟨by kernel_rfl⟩
instance bo_4 : IsBool Try.prog 4 := ⟨by kernel_rfl⟩
instance oc_5 : OneCell Try.prog 5 := ⟨fun _ => by kernel_rfl, fun _ => by kernel_rfl⟩
instance ze_5 : Zero Try.prog 5 (Value.int .u8 0) := ⟨fun _ => by kernel_rfl⟩
instance ce_5 : Cells Try.prog 5 1 1 := ⟨by kernel_rfl⟩
instance in_5 : IsInt Try.prog 5 .u8 := ⟨by kernel_rfl⟩
instance oc_6 : OneCell Try.prog 6 := ⟨fun _ => by kernel_rfl, fun _ => by kernel_rfl⟩
instance ze_6 : Zero Try.prog 6 (Value.int .u8 0) := ⟨fun _ => by kernel_rfl⟩
instance ce_6 : Cells Try.prog 6 1 1 := ⟨by kernel_rfl⟩
instance in_6 : IsInt Try.prog 6 .u8 := ⟨by kernel_rfl⟩
instance ag_8 : Agg Try.prog 8 4 := ⟨fun _ => by kernel_rfl, fun _ => by kernel_rfl⟩
instance ze_8 : Zero Try.prog 8 (Value.agg #[Value.int .i64 0, Value.int .i64 0, Value.bool false, Value.int .u8 0]) := ⟨fun _ => by kernel_rfl⟩
instance ce_8 : Cells Try.prog 8 4 24 := ⟨by kernel_rfl⟩
instance oc_9 : OneCell Try.prog 9 := ⟨fun _ => by kernel_rfl, fun _ => by kernel_rfl⟩
instance ze_9 : Zero Try.prog 9 (Value.string .empty) := ⟨fun _ => by kernel_rfl⟩
instance ce_9 : Cells Try.prog 9 1 16 := ⟨by kernel_rfl⟩
instance st_9 : IsStr Try.prog 9 := ⟨by kernel_rfl⟩
instance oc_10 : OneCell Try.prog 10 := ⟨fun _ => by kernel_rfl, fun _ => by kernel_rfl⟩
instance ze_10 : Zero Try.prog 10 (Value.string .empty) := ⟨fun _ => by kernel_rfl⟩
instance ce_10 : Cells Try.prog 10 1 16 := ⟨by kernel_rfl⟩
instance st_10 : IsStr Try.prog 10 := ⟨by kernel_rfl⟩
instance oc_12 : OneCell Try.prog 12 := ⟨fun _ => by kernel_rfl, fun _ => by kernel_rfl⟩
instance ze_12 : Zero Try.prog 12 (Value.int .u64 0) := ⟨fun _ => by kernel_rfl⟩
instance ce_12 : Cells Try.prog 12 1 8 := ⟨by kernel_rfl⟩
instance in_12 : IsInt Try.prog 12 .u64 := ⟨by kernel_rfl⟩
instance ag_13 : Agg Try.prog 13 2 := ⟨fun _ => by kernel_rfl, fun _ => by kernel_rfl⟩
instance ze_13 : Zero Try.prog 13 (Value.agg #[Value.string .empty, Value.int .u64 0]) := ⟨fun _ => by kernel_rfl⟩
instance ce_13 : Cells Try.prog 13 2 24 := ⟨by kernel_rfl⟩
instance oc_15 : OneCell Try.prog 15 := ⟨fun _ => by kernel_rfl, fun _ => by kernel_rfl⟩
instance ze_15 : Zero Try.prog 15 (Value.pointer none) := ⟨fun _ => by kernel_rfl⟩
instance ce_15 : Cells Try.prog 15 1 8 := ⟨by kernel_rfl⟩
instance pt_15 : IsPtr Try.prog 15 := ⟨_, (by kernel_rfl : Program.underlying _ _ = some (.pointer 132))⟩
instance oc_20 : OneCell Try.prog 20 := ⟨fun _ => by kernel_rfl, fun _ => by kernel_rfl⟩
instance ze_20 : Zero Try.prog 20 (Value.nilIface) := ⟨fun _ => by kernel_rfl⟩
instance ce_20 : Cells Try.prog 20 1 16 := ⟨by kernel_rfl⟩
instance oc_21 : OneCell Try.prog 21 := ⟨fun _ => by kernel_rfl, fun _ => by kernel_rfl⟩
instance ze_21 : Zero Try.prog 21 (Value.int .i32 0) := ⟨fun _ => by kernel_rfl⟩
instance ce_21 : Cells Try.prog 21 1 4 := ⟨by kernel_rfl⟩
instance in_21 : IsInt Try.prog 21 .i32 := ⟨by kernel_rfl⟩
instance oc_22 : OneCell Try.prog 22 := ⟨fun _ => by kernel_rfl, fun _ => by kernel_rfl⟩
instance ze_22 : Zero Try.prog 22 (Value.slice none 0 0) := ⟨fun _ => by kernel_rfl⟩
instance ce_22 : Cells Try.prog 22 1 24 := ⟨by kernel_rfl⟩
instance sl_22 : IsSlice Try.prog 22 37 := ⟨by kernel_rfl⟩
instance oc_23 : OneCell Try.prog 23 := ⟨fun _ => by kernel_rfl, fun _ => by kernel_rfl⟩
instance ze_23 : Zero Try.prog 23 (Value.slice none 0 0) := ⟨fun _ => by kernel_rfl⟩
instance ce_23 : Cells Try.prog 23 1 24 := ⟨by kernel_rfl⟩
instance sl_23 : IsSlice Try.prog 23 3 := ⟨by kernel_rfl⟩
instance oc_25 : OneCell Try.prog 25 := ⟨fun _ => by kernel_rfl, fun _ => by kernel_rfl⟩
instance ze_25 : Zero Try.prog 25 (Value.pointer none) := ⟨fun _ => by kernel_rfl⟩
instance ce_25 : Cells Try.prog 25 1 8 := ⟨by kernel_rfl⟩
instance pt_25 : IsPtr Try.prog 25 := ⟨_, (by kernel_rfl : Program.underlying _ _ = some (.pointer 64))⟩
instance oc_27 : OneCell Try.prog 27 := ⟨fun _ => by kernel_rfl, fun _ => by kernel_rfl⟩
instance ze_27 : Zero Try.prog 27 (Value.slice none 0 0) := ⟨fun _ => by kernel_rfl⟩
instance ce_27 : Cells Try.prog 27 1 24 := ⟨by kernel_rfl⟩
instance sl_27 : IsSlice Try.prog 27 5 := ⟨by kernel_rfl⟩
instance oc_33 : OneCell Try.prog 33 := ⟨fun _ => by kernel_rfl, fun _ => by kernel_rfl⟩
instance ze_33 : Zero Try.prog 33 (Value.int .i64 0) := ⟨fun _ => by kernel_rfl⟩
instance ce_33 : Cells Try.prog 33 1 8 := ⟨by kernel_rfl⟩
instance in_33 : IsInt Try.prog 33 .i64 := ⟨by kernel_rfl⟩
instance ag_37 : Agg Try.prog 37 3 := ⟨fun _ => by kernel_rfl, fun _ => by kernel_rfl⟩
instance ze_37 : Zero Try.prog 37 (Value.agg #[Value.int .i64 0, Value.int .i64 0, Value.int .i64 0]) := ⟨fun _ => by kernel_rfl⟩
instance ce_37 : Cells Try.prog 37 3 24 := ⟨by kernel_rfl⟩
instance oc_42 : OneCell Try.prog 42 := ⟨fun _ => by kernel_rfl, fun _ => by kernel_rfl⟩
instance ze_42 : Zero Try.prog 42 (Value.nilFunc) := ⟨fun _ => by kernel_rfl⟩
instance ce_42 : Cells Try.prog 42 1 8 := ⟨by kernel_rfl⟩
instance oc_46 : OneCell Try.prog 46 := ⟨fun _ => by kernel_rfl, fun _ => by kernel_rfl⟩
instance ze_46 : Zero Try.prog 46 (Value.slice none 0 0) := ⟨fun _ => by kernel_rfl⟩
instance ce_46 : Cells Try.prog 46 1 24 := ⟨by kernel_rfl⟩
instance sl_46 : IsSlice Try.prog 46 54 := ⟨by kernel_rfl⟩
instance oc_49 : OneCell Try.prog 49 := ⟨fun _ => by kernel_rfl, fun _ => by kernel_rfl⟩
instance ze_49 : Zero Try.prog 49 (Value.pointer none) := ⟨fun _ => by kernel_rfl⟩
instance ce_49 : Cells Try.prog 49 1 8 := ⟨by kernel_rfl⟩
instance pt_49 : IsPtr Try.prog 49 := ⟨_, (by kernel_rfl : Program.underlying _ _ = some (.pointer 106))⟩
instance ag_54 : Agg Try.prog 54 4 := ⟨fun _ => by kernel_rfl, fun _ => by kernel_rfl⟩
instance ze_54 : Zero Try.prog 54 (Value.agg #[Value.int .i64 0, Value.int .i64 0, Value.slice none 0 0, Value.slice none 0 0]) := ⟨fun _ => by kernel_rfl⟩
instance ce_54 : Cells Try.prog 54 4 64 := ⟨by kernel_rfl⟩
instance oc_61 : OneCell Try.prog 61 := ⟨fun _ => by kernel_rfl, fun _ => by kernel_rfl⟩
instance ze_61 : Zero Try.prog 61 (Value.map none) := ⟨fun _ => by kernel_rfl⟩
instance ce_61 : Cells Try.prog 61 1 8 := ⟨by kernel_rfl⟩
instance ma_61 : IsMap Try.prog 61 3 99 := ⟨by kernel_rfl⟩
instance oc_62 : OneCell Try.prog 62 := ⟨fun _ => by kernel_rfl, fun _ => by kernel_rfl⟩
instance ze_62 : Zero Try.prog 62 (Value.slice none 0 0) := ⟨fun _ => by kernel_rfl⟩
instance ce_62 : Cells Try.prog 62 1 24 := ⟨by kernel_rfl⟩
instance sl_62 : IsSlice Try.prog 62 101 := ⟨by kernel_rfl⟩
instance ag_64 : Agg Try.prog 64 8 := ⟨fun _ => by kernel_rfl, fun _ => by kernel_rfl⟩
instance ze_64 : Zero Try.prog 64 (Value.agg #[Value.int .i64 0, Value.map none, Value.map none, Value.slice none 0 0, Value.bool false, Value.int .i64 0, Value.int .i64 0, Value.slice none 0 0]) := ⟨fun _ => by kernel_rfl⟩
instance ce_64 : Cells Try.prog 64 8 96 := ⟨by kernel_rfl⟩
instance oc_65 : OneCell Try.prog 65 := ⟨fun _ => by kernel_rfl, fun _ => by kernel_rfl⟩
instance ze_65 : Zero Try.prog 65 (Value.slice none 0 0) := ⟨fun _ => by kernel_rfl⟩
instance ce_65 : Cells Try.prog 65 1 24 := ⟨by kernel_rfl⟩
instance sl_65 : IsSlice Try.prog 65 67 := ⟨by kernel_rfl⟩
instance ag_67 : Agg Try.prog 67 2 := ⟨fun _ => by kernel_rfl, fun _ => by kernel_rfl⟩
instance ze_67 : Zero Try.prog 67 (Value.agg #[Value.int .i64 0, Value.int .i64 0]) := ⟨fun _ => by kernel_rfl⟩
instance ce_67 : Cells Try.prog 67 2 16 := ⟨by kernel_rfl⟩
instance oc_68 : OneCell Try.prog 68 := ⟨fun _ => by kernel_rfl, fun _ => by kernel_rfl⟩
instance ze_68 : Zero Try.prog 68 (Value.slice none 0 0) := ⟨fun _ => by kernel_rfl⟩
instance ce_68 : Cells Try.prog 68 1 24 := ⟨by kernel_rfl⟩
instance sl_68 : IsSlice Try.prog 68 23 := ⟨by kernel_rfl⟩
instance oc_70 : OneCell Try.prog 70 := ⟨fun _ => by kernel_rfl, fun _ => by kernel_rfl⟩
instance ze_70 : Zero Try.prog 70 (Value.pointer none) := ⟨fun _ => by kernel_rfl⟩
instance ce_70 : Cells Try.prog 70 1 8 := ⟨by kernel_rfl⟩
instance pt_70 : IsPtr Try.prog 70 := ⟨_, (by kernel_rfl : Program.underlying _ _ = some (.pointer 95))⟩
instance ag_78 : Agg Try.prog 78 4 := ⟨fun _ => by kernel_rfl, fun _ => by kernel_rfl⟩
instance ze_78 : Zero Try.prog 78 (Value.agg #[Value.int .i64 0, Value.int .i64 0, Value.int .i64 0, Value.int .i64 0]) := ⟨fun _ => by kernel_rfl⟩
instance ce_78 : Cells Try.prog 78 4 32 := ⟨by kernel_rfl⟩
instance oc_85 : OneCell Try.prog 85 := ⟨fun _ => by kernel_rfl, fun _ => by kernel_rfl⟩
instance ze_85 : Zero Try.prog 85 (Value.slice none 0 0) := ⟨fun _ => by kernel_rfl⟩
instance ce_85 : Cells Try.prog 85 1 24 := ⟨by kernel_rfl⟩
instance sl_85 : IsSlice Try.prog 85 90 := ⟨by kernel_rfl⟩
instance oc_86 : OneCell Try.prog 86 := ⟨fun _ => by kernel_rfl, fun _ => by kernel_rfl⟩
instance ze_86 : Zero Try.prog 86 (Value.pointer none) := ⟨fun _ => by kernel_rfl⟩
instance ce_86 : Cells Try.prog 86 1 8 := ⟨by kernel_rfl⟩
instance pt_86 : IsPtr Try.prog 86 := ⟨_, (by kernel_rfl : Program.underlying _ _ = some (.pointer 119))⟩
instance ag_90 : Agg Try.prog 90 4 := ⟨fun _ => by kernel_rfl, fun _ => by kernel_rfl⟩
instance ze_90 : Zero Try.prog 90 (Value.agg #[Value.int .i64 0, Value.int .i64 0, Value.int .i64 0, Value.slice none 0 0]) := ⟨fun _ => by kernel_rfl⟩
instance ce_90 : Cells Try.prog 90 4 48 := ⟨by kernel_rfl⟩
instance oc_93 : OneCell Try.prog 93 := ⟨fun _ => by kernel_rfl, fun _ => by kernel_rfl⟩
instance ze_93 : Zero Try.prog 93 (Value.slice none 0 0) := ⟨fun _ => by kernel_rfl⟩
instance ce_93 : Cells Try.prog 93 1 24 := ⟨by kernel_rfl⟩
instance sl_93 : IsSlice Try.prog 93 27 := ⟨by kernel_rfl⟩
instance ag_95 : Agg Try.prog 95 4 := ⟨fun _ => by kernel_rfl, fun _ => by kernel_rfl⟩
instance ze_95 : Zero Try.prog 95 (Value.agg #[Value.pointer none, Value.int .i64 0, Value.int .i64 0, Value.bool false]) := ⟨fun _ => by kernel_rfl⟩
instance ce_95 : Cells Try.prog 95 4 32 := ⟨by kernel_rfl⟩
instance ag_99 : Agg Try.prog 99 128 := ⟨fun _ => by kernel_rfl, fun _ => by kernel_rfl⟩
instance ze_99 : Zero Try.prog 99 (Value.agg (List.replicate 128 (Value.int .u8 0)).toArray) := ⟨fun _ => by kernel_rfl⟩
instance ce_99 : Cells Try.prog 99 128 128 := ⟨by kernel_rfl⟩
instance ar_99 : IsArray Try.prog 99 128 5 := ⟨by kernel_rfl⟩
instance ag_101 : Agg Try.prog 101 129 := ⟨fun _ => by kernel_rfl, fun _ => by kernel_rfl⟩
instance ze_101 : Zero Try.prog 101 (Value.agg ([Value.int .i64 0] ++ List.replicate 128 (Value.int .u8 0)).toArray) := ⟨fun _ => by kernel_rfl⟩
instance ce_101 : Cells Try.prog 101 129 136 := ⟨by kernel_rfl⟩
instance oc_104 : OneCell Try.prog 104 := ⟨fun _ => by kernel_rfl, fun _ => by kernel_rfl⟩
instance ze_104 : Zero Try.prog 104 (Value.slice none 0 0) := ⟨fun _ => by kernel_rfl⟩
instance ce_104 : Cells Try.prog 104 1 24 := ⟨by kernel_rfl⟩
instance sl_104 : IsSlice Try.prog 104 108 := ⟨by kernel_rfl⟩
instance ag_106 : Agg Try.prog 106 7 := ⟨fun _ => by kernel_rfl, fun _ => by kernel_rfl⟩
instance ze_106 : Zero Try.prog 106 (Value.agg #[Value.int .i64 0, Value.slice none 0 0, Value.slice none 0 0, Value.bool false, Value.int .i64 0, Value.int .i64 0, Value.slice none 0 0]) := ⟨fun _ => by kernel_rfl⟩
instance ce_106 : Cells Try.prog 106 7 104 := ⟨by kernel_rfl⟩
instance ag_108 : Agg Try.prog 108 2 := ⟨fun _ => by kernel_rfl, fun _ => by kernel_rfl⟩
instance ze_108 : Zero Try.prog 108 (Value.agg #[Value.int .i64 0, Value.slice none 0 0]) := ⟨fun _ => by kernel_rfl⟩
instance ce_108 : Cells Try.prog 108 2 32 := ⟨by kernel_rfl⟩
instance oc_110 : OneCell Try.prog 110 := ⟨fun _ => by kernel_rfl, fun _ => by kernel_rfl⟩
instance ze_110 : Zero Try.prog 110 (Value.nilFunc) := ⟨fun _ => by kernel_rfl⟩
instance ce_110 : Cells Try.prog 110 1 8 := ⟨by kernel_rfl⟩
instance ag_112 : Agg Try.prog 112 128 := ⟨fun _ => by kernel_rfl, fun _ => by kernel_rfl⟩
instance ze_112 : Zero Try.prog 112 (Value.agg (List.replicate 128 (Value.int .u8 0)).toArray) := ⟨fun _ => by kernel_rfl⟩
instance ce_112 : Cells Try.prog 112 128 128 := ⟨by kernel_rfl⟩
instance ar_112 : IsArray Try.prog 112 128 5 := ⟨by kernel_rfl⟩
instance oc_115 : OneCell Try.prog 115 := ⟨fun _ => by kernel_rfl, fun _ => by kernel_rfl⟩
instance ze_115 : Zero Try.prog 115 (Value.int .u64 0) := ⟨fun _ => by kernel_rfl⟩
instance ce_115 : Cells Try.prog 115 1 8 := ⟨by kernel_rfl⟩
instance in_115 : IsInt Try.prog 115 .u64 := ⟨by kernel_rfl⟩
instance ag_119 : Agg Try.prog 119 4 := ⟨fun _ => by kernel_rfl, fun _ => by kernel_rfl⟩
instance ze_119 : Zero Try.prog 119 (Value.agg #[Value.pointer none, Value.int .i64 0, Value.int .i64 0, Value.bool false]) := ⟨fun _ => by kernel_rfl⟩
instance ce_119 : Cells Try.prog 119 4 32 := ⟨by kernel_rfl⟩
instance oc_121 : OneCell Try.prog 121 := ⟨fun _ => by kernel_rfl, fun _ => by kernel_rfl⟩
instance ze_121 : Zero Try.prog 121 (Value.nilFunc) := ⟨fun _ => by kernel_rfl⟩
instance ce_121 : Cells Try.prog 121 1 8 := ⟨by kernel_rfl⟩
instance oc_122 : OneCell Try.prog 122 := ⟨fun _ => by kernel_rfl, fun _ => by kernel_rfl⟩
instance ze_122 : Zero Try.prog 122 (Value.nilFunc) := ⟨fun _ => by kernel_rfl⟩
instance ce_122 : Cells Try.prog 122 1 8 := ⟨by kernel_rfl⟩
instance oc_126 : OneCell Try.prog 126 := ⟨fun _ => by kernel_rfl, fun _ => by kernel_rfl⟩
instance ze_126 : Zero Try.prog 126 (Value.int .u64 0) := ⟨fun _ => by kernel_rfl⟩
instance ce_126 : Cells Try.prog 126 1 8 := ⟨by kernel_rfl⟩
instance in_126 : IsInt Try.prog 126 .u64 := ⟨by kernel_rfl⟩
instance oc_127 : OneCell Try.prog 127 := ⟨fun _ => by kernel_rfl, fun _ => by kernel_rfl⟩
instance ze_127 : Zero Try.prog 127 (Value.nilFunc) := ⟨fun _ => by kernel_rfl⟩
instance ce_127 : Cells Try.prog 127 1 8 := ⟨by kernel_rfl⟩
instance ag_132 : Agg Try.prog 132 4 := ⟨fun _ => by kernel_rfl, fun _ => by kernel_rfl⟩
instance ze_132 : Zero Try.prog 132 (Value.agg #[Value.pointer none, Value.pointer none, Value.pointer none, Value.string .empty]) := ⟨fun _ => by kernel_rfl⟩
instance ce_132 : Cells Try.prog 132 4 40 := ⟨by kernel_rfl⟩
instance bs_37 : BuildS Try.prog 37 ((Value.int .i64 0) :: (Value.int .i64 0) :: (Value.int .i64 0) :: []) [(0, 1), (1, 1), (2, 1)] := ⟨fun _ => by kernel_rfl, _, Try.underlying37, fun _ => by kernel_rfl⟩
instance bs_54 : BuildS Try.prog 54 ((Value.int .i64 0) :: (Value.int .i64 0) :: (Value.slice none 0 0) :: (Value.slice none 0 0) :: []) [(0, 1), (1, 1), (2, 1), (3, 1)] := ⟨fun _ => by kernel_rfl, _, Try.underlying54, fun _ => by kernel_rfl⟩
instance bs_64 : BuildS Try.prog 64 ((Value.int .i64 0) :: (Value.map none) :: (Value.map none) :: (Value.slice none 0 0) :: (Value.bool false) :: (Value.int .i64 0) :: (Value.int .i64 0) :: (Value.slice none 0 0) :: []) [(0, 1), (1, 1), (2, 1), (3, 1), (4, 1), (5, 1), (6, 1), (7, 1)] := ⟨fun _ => by kernel_rfl, _, Try.underlying64, fun _ => by kernel_rfl⟩
instance bs_90 : BuildS Try.prog 90 ((Value.int .i64 0) :: (Value.int .i64 0) :: (Value.int .i64 0) :: (Value.slice none 0 0) :: []) [(0, 1), (1, 1), (2, 1), (3, 1)] := ⟨fun _ => by kernel_rfl, _, Try.underlying90, fun _ => by kernel_rfl⟩
instance bs_95 : BuildS Try.prog 95 ((Value.pointer none) :: (Value.int .i64 0) :: (Value.int .i64 0) :: (Value.bool false) :: []) [(0, 1), (1, 1), (2, 1), (3, 1)] := ⟨fun _ => by kernel_rfl, _, Try.underlying95, fun _ => by kernel_rfl⟩
instance bs_101 : BuildS Try.prog 101 ((Value.int .i64 0) :: List.replicate 128 (Value.int .u8 0)) [(0, 1), (1, 128)] := ⟨fun _ => by kernel_rfl, _, Try.underlying101, fun _ => by kernel_rfl⟩
instance bs_106 : BuildS Try.prog 106 ((Value.int .i64 0) :: (Value.slice none 0 0) :: (Value.slice none 0 0) :: (Value.bool false) :: (Value.int .i64 0) :: (Value.int .i64 0) :: (Value.slice none 0 0) :: []) [(0, 1), (1, 1), (2, 1), (3, 1), (4, 1), (5, 1), (6, 1)] := ⟨fun _ => by kernel_rfl, _, Try.underlying106, fun _ => by kernel_rfl⟩
instance bs_108 : BuildS Try.prog 108 ((Value.int .i64 0) :: (Value.slice none 0 0) :: []) [(0, 1), (1, 1)] := ⟨fun _ => by kernel_rfl, _, Try.underlying108, fun _ => by kernel_rfl⟩
instance bs_119 : BuildS Try.prog 119 ((Value.pointer none) :: (Value.int .i64 0) :: (Value.int .i64 0) :: (Value.bool false) :: []) [(0, 1), (1, 1), (2, 1), (3, 1)] := ⟨fun _ => by kernel_rfl, _, Try.underlying119, fun _ => by kernel_rfl⟩
instance fa_37_0 : FieldAt Try.prog 37 0 0 := ⟨fun _ _ => by kernel_rfl⟩
instance fa_37_1 : FieldAt Try.prog 37 1 1 := ⟨fun _ _ => by kernel_rfl⟩
instance fa_37_2 : FieldAt Try.prog 37 2 2 := ⟨fun _ _ => by kernel_rfl⟩
instance fa_54_0 : FieldAt Try.prog 54 0 0 := ⟨fun _ _ => by kernel_rfl⟩
instance fa_54_1 : FieldAt Try.prog 54 1 1 := ⟨fun _ _ => by kernel_rfl⟩
instance fa_54_2 : FieldAt Try.prog 54 2 2 := ⟨fun _ _ => by kernel_rfl⟩
instance fa_54_3 : FieldAt Try.prog 54 3 3 := ⟨fun _ _ => by kernel_rfl⟩
instance fa_64_0 : FieldAt Try.prog 64 0 0 := ⟨fun _ _ => by kernel_rfl⟩
instance fa_64_1 : FieldAt Try.prog 64 1 1 := ⟨fun _ _ => by kernel_rfl⟩
instance fa_64_2 : FieldAt Try.prog 64 2 2 := ⟨fun _ _ => by kernel_rfl⟩
instance fa_64_3 : FieldAt Try.prog 64 3 3 := ⟨fun _ _ => by kernel_rfl⟩
instance fa_64_4 : FieldAt Try.prog 64 4 4 := ⟨fun _ _ => by kernel_rfl⟩
instance fa_64_5 : FieldAt Try.prog 64 5 5 := ⟨fun _ _ => by kernel_rfl⟩
instance fa_64_6 : FieldAt Try.prog 64 6 6 := ⟨fun _ _ => by kernel_rfl⟩
instance fa_64_7 : FieldAt Try.prog 64 7 7 := ⟨fun _ _ => by kernel_rfl⟩
instance fa_67_0 : FieldAt Try.prog 67 0 0 := ⟨fun _ _ => by kernel_rfl⟩
instance fa_67_1 : FieldAt Try.prog 67 1 1 := ⟨fun _ _ => by kernel_rfl⟩
instance fa_78_0 : FieldAt Try.prog 78 0 0 := ⟨fun _ _ => by kernel_rfl⟩
instance fa_78_1 : FieldAt Try.prog 78 1 2 := ⟨fun _ _ => by kernel_rfl⟩
instance fa_78_2 : FieldAt Try.prog 78 2 3 := ⟨fun _ _ => by kernel_rfl⟩
instance fa_90_0 : FieldAt Try.prog 90 0 0 := ⟨fun _ _ => by kernel_rfl⟩
instance fa_90_1 : FieldAt Try.prog 90 1 1 := ⟨fun _ _ => by kernel_rfl⟩
instance fa_90_2 : FieldAt Try.prog 90 2 2 := ⟨fun _ _ => by kernel_rfl⟩
instance fa_90_3 : FieldAt Try.prog 90 3 3 := ⟨fun _ _ => by kernel_rfl⟩
instance fa_95_0 : FieldAt Try.prog 95 0 0 := ⟨fun _ _ => by kernel_rfl⟩
instance fa_95_1 : FieldAt Try.prog 95 1 1 := ⟨fun _ _ => by kernel_rfl⟩
instance fa_95_2 : FieldAt Try.prog 95 2 2 := ⟨fun _ _ => by kernel_rfl⟩
instance fa_95_3 : FieldAt Try.prog 95 3 3 := ⟨fun _ _ => by kernel_rfl⟩
instance fa_101_0 : FieldAt Try.prog 101 0 0 := ⟨fun _ _ => by kernel_rfl⟩
instance fa_101_1 : FieldAt Try.prog 101 1 1 := ⟨fun _ _ => by kernel_rfl⟩
instance fa_106_0 : FieldAt Try.prog 106 0 0 := ⟨fun _ _ => by kernel_rfl⟩
instance fa_106_1 : FieldAt Try.prog 106 1 1 := ⟨fun _ _ => by kernel_rfl⟩
instance fa_106_2 : FieldAt Try.prog 106 2 2 := ⟨fun _ _ => by kernel_rfl⟩
instance fa_106_3 : FieldAt Try.prog 106 3 3 := ⟨fun _ _ => by kernel_rfl⟩
instance fa_106_4 : FieldAt Try.prog 106 4 4 := ⟨fun _ _ => by kernel_rfl⟩
instance fa_106_5 : FieldAt Try.prog 106 5 5 := ⟨fun _ _ => by kernel_rfl⟩
instance fa_106_6 : FieldAt Try.prog 106 6 6 := ⟨fun _ _ => by kernel_rfl⟩
instance fa_108_0 : FieldAt Try.prog 108 0 0 := ⟨fun _ _ => by kernel_rfl⟩
instance fa_108_1 : FieldAt Try.prog 108 1 1 := ⟨fun _ _ => by kernel_rfl⟩
instance fa_119_0 : FieldAt Try.prog 119 0 0 := ⟨fun _ _ => by kernel_rfl⟩
instance fa_119_1 : FieldAt Try.prog 119 1 1 := ⟨fun _ _ => by kernel_rfl⟩
instance fa_119_2 : FieldAt Try.prog 119 2 2 := ⟨fun _ _ => by kernel_rfl⟩
instance fa_119_3 : FieldAt Try.prog 119 3 3 := ⟨fun _ _ => by kernel_rfl⟩
instance en_8 : Enters Try.prog 8 := ⟨fun _ _ => by kernel_rfl⟩
instance en_15 : Enters Try.prog 15 := ⟨fun _ _ => by kernel_rfl⟩
instance en_17 : Enters Try.prog 17 := ⟨fun _ _ => by kernel_rfl⟩
instance en_18 : Enters Try.prog 18 := ⟨fun _ _ => by kernel_rfl⟩
instance en_19 : Enters Try.prog 19 := ⟨fun _ _ => by kernel_rfl⟩
instance en_20 : Enters Try.prog 20 := ⟨fun _ _ => by kernel_rfl⟩
instance en_21 : Enters Try.prog 21 := ⟨fun _ _ => by kernel_rfl⟩
instance en_22 : Enters Try.prog 22 := ⟨fun _ _ => by kernel_rfl⟩
instance en_23 : Enters Try.prog 23 := ⟨fun _ _ => by kernel_rfl⟩
instance en_24 : Enters Try.prog 24 := ⟨fun _ _ => by kernel_rfl⟩
instance en_25 : Enters Try.prog 25 := ⟨fun _ _ => by kernel_rfl⟩
instance en_26 : Enters Try.prog 26 := ⟨fun _ _ => by kernel_rfl⟩
instance en_27 : Enters Try.prog 27 := ⟨fun _ _ => by kernel_rfl⟩
instance en_28 : Enters Try.prog 28 := ⟨fun _ _ => by kernel_rfl⟩
instance en_29 : Enters Try.prog 29 := ⟨fun _ _ => by kernel_rfl⟩
instance en_30 : Enters Try.prog 30 := ⟨fun _ _ => by kernel_rfl⟩
instance en_31 : Enters Try.prog 31 := ⟨fun _ _ => by kernel_rfl⟩
instance en_32 : Enters Try.prog 32 := ⟨fun _ _ => by kernel_rfl⟩
instance en_33 : Enters Try.prog 33 := ⟨fun _ _ => by kernel_rfl⟩
instance en_34 : Enters Try.prog 34 := ⟨fun _ _ => by kernel_rfl⟩
instance en_35 : Enters Try.prog 35 := ⟨fun _ _ => by kernel_rfl⟩
instance en_36 : Enters Try.prog 36 := ⟨fun _ _ => by kernel_rfl⟩
instance en_37 : Enters Try.prog 37 := ⟨fun _ _ => by kernel_rfl⟩
instance en_38 : Enters Try.prog 38 := ⟨fun _ _ => by kernel_rfl⟩
instance en_39 : Enters Try.prog 39 := ⟨fun _ _ => by kernel_rfl⟩
instance en_40 : Enters Try.prog 40 := ⟨fun _ _ => by kernel_rfl⟩
instance en_41 : Enters Try.prog 41 := ⟨fun _ _ => by kernel_rfl⟩
instance en_42 : Enters Try.prog 42 := ⟨fun _ _ => by kernel_rfl⟩
instance en_43 : Enters Try.prog 43 := ⟨fun _ _ => by kernel_rfl⟩
instance en_44 : Enters Try.prog 44 := ⟨fun _ _ => by kernel_rfl⟩
instance en_45 : Enters Try.prog 45 := ⟨fun _ _ => by kernel_rfl⟩
instance en_46 : Enters Try.prog 46 := ⟨fun _ _ => by kernel_rfl⟩
instance en_47 : Enters Try.prog 47 := ⟨fun _ _ => by kernel_rfl⟩
instance en_48 : Enters Try.prog 48 := ⟨fun _ _ => by kernel_rfl⟩
instance en_49 : Enters Try.prog 49 := ⟨fun _ _ => by kernel_rfl⟩
instance en_50 : Enters Try.prog 50 := ⟨fun _ _ => by kernel_rfl⟩
instance en_51 : Enters Try.prog 51 := ⟨fun _ _ => by kernel_rfl⟩
instance en_52 : Enters Try.prog 52 := ⟨fun _ _ => by kernel_rfl⟩
instance en_53 : Enters Try.prog 53 := ⟨fun _ _ => by kernel_rfl⟩
instance en_54 : Enters Try.prog 54 := ⟨fun _ _ => by kernel_rfl⟩
instance en_55 : Enters Try.prog 55 := ⟨fun _ _ => by kernel_rfl⟩
instance en_56 : Enters Try.prog 56 := ⟨fun _ _ => by kernel_rfl⟩
instance en_57 : Enters Try.prog 57 := ⟨fun _ _ => by kernel_rfl⟩
instance en_58 : Enters Try.prog 58 := ⟨fun _ _ => by kernel_rfl⟩
instance en_59 : Enters Try.prog 59 := ⟨fun _ _ => by kernel_rfl⟩
instance en_60 : Enters Try.prog 60 := ⟨fun _ _ => by kernel_rfl⟩
instance en_61 : Enters Try.prog 61 := ⟨fun _ _ => by kernel_rfl⟩
instance en_62 : Enters Try.prog 62 := ⟨fun _ _ => by kernel_rfl⟩
instance en_63 : Enters Try.prog 63 := ⟨fun _ _ => by kernel_rfl⟩
instance en_64 : Enters Try.prog 64 := ⟨fun _ _ => by kernel_rfl⟩
instance en_65 : Enters Try.prog 65 := ⟨fun _ _ => by kernel_rfl⟩
instance en_66 : Enters Try.prog 66 := ⟨fun _ _ => by kernel_rfl⟩
instance en_67 : Enters Try.prog 67 := ⟨fun _ _ => by kernel_rfl⟩
instance en_68 : Enters Try.prog 68 := ⟨fun _ _ => by kernel_rfl⟩
instance en_69 : Enters Try.prog 69 := ⟨fun _ _ => by kernel_rfl⟩
instance en_70 : Enters Try.prog 70 := ⟨fun _ _ => by kernel_rfl⟩
instance en_71 : Enters Try.prog 71 := ⟨fun _ _ => by kernel_rfl⟩
instance en_72 : Enters Try.prog 72 := ⟨fun _ _ => by kernel_rfl⟩
instance en_73 : Enters Try.prog 73 := ⟨fun _ _ => by kernel_rfl⟩
instance en_74 : Enters Try.prog 74 := ⟨fun _ _ => by kernel_rfl⟩
instance en_75 : Enters Try.prog 75 := ⟨fun _ _ => by kernel_rfl⟩
instance en_76 : Enters Try.prog 76 := ⟨fun _ _ => by kernel_rfl⟩
instance en_77 : Enters Try.prog 77 := ⟨fun _ _ => by kernel_rfl⟩
instance en_78 : Enters Try.prog 78 := ⟨fun _ _ => by kernel_rfl⟩
instance en_79 : Enters Try.prog 79 := ⟨fun _ _ => by kernel_rfl⟩
instance en_80 : Enters Try.prog 80 := ⟨fun _ _ => by kernel_rfl⟩
instance en_81 : Enters Try.prog 81 := ⟨fun _ _ => by kernel_rfl⟩
instance en_82 : Enters Try.prog 82 := ⟨fun _ _ => by kernel_rfl⟩
instance en_83 : Enters Try.prog 83 := ⟨fun _ _ => by kernel_rfl⟩
instance en_84 : Enters Try.prog 84 := ⟨fun _ _ => by kernel_rfl⟩
instance en_85 : Enters Try.prog 85 := ⟨fun _ _ => by kernel_rfl⟩
instance en_87 : Enters Try.prog 87 := ⟨fun _ _ => by kernel_rfl⟩
instance en_88 : Enters Try.prog 88 := ⟨fun _ _ => by kernel_rfl⟩
instance en_89 : Enters Try.prog 89 := ⟨fun _ _ => by kernel_rfl⟩
instance en_90 : Enters Try.prog 90 := ⟨fun _ _ => by kernel_rfl⟩
instance cl_86 : IsClone Try.prog 86 := ⟨run_callFunc_extern Try.func86 (by kernel_rfl) (by kernel_rfl) (by kernel_rfl) (by kernel_rfl)⟩
end Go.Proofs.Yteflbohpabdjkaa
