/-
 Made by program: what the translation's tables say of the types and functions that its code uses.
-/
import Derived.Test.YtmkaahkbhdlniaaGreatDoorProg
import Derived.Test.YtmkaahkbhdlniaaGreatDoorKn4
import Derived.KernelRfl
set_option linter.unusedVariables false
set_option linter.unusedSimpArgs false
namespace Go.Proofs.YtmkaahkbhdlniaaGreatDoor
open Go Go.Mw
instance oc_1 : OneCell Tryz.prog 1 := ⟨fun _ => by kernel_rfl, fun _ => by kernel_rfl⟩
instance ze_1 : Zero Tryz.prog 1 (Value.nilFunc) := ⟨fun _ => by kernel_rfl⟩
instance ce_1 : Cells Tryz.prog 1 1 8 := ⟨by kernel_rfl⟩
instance oc_2 : OneCell Tryz.prog 2 := ⟨fun _ => by kernel_rfl, fun _ => by kernel_rfl⟩
instance ze_2 : Zero Tryz.prog 2 (Value.int .i64 0) := ⟨fun _ => by kernel_rfl⟩
instance ce_2 : Cells Tryz.prog 2 1 8 := ⟨by kernel_rfl⟩
instance in_2 : IsInt Tryz.prog 2 .i64 := ⟨by kernel_rfl⟩
instance oc_3 : OneCell Tryz.prog 3 := ⟨fun _ => by kernel_rfl, fun _ => by kernel_rfl⟩
instance ze_3 : Zero Tryz.prog 3 (Value.int .i64 0) := ⟨fun _ => by kernel_rfl⟩
instance ce_3 : Cells Tryz.prog 3 1 8 := ⟨by kernel_rfl⟩
instance in_3 : IsInt Tryz.prog 3 .i64 := ⟨by kernel_rfl⟩
instance oc_4 : OneCell Tryz.prog 4 := ⟨fun _ => by kernel_rfl, fun _ => by kernel_rfl⟩
instance ze_4 : Zero Tryz.prog 4 (Value.bool false) := ⟨fun _ => by kernel_rfl⟩
instance ce_4 : Cells Tryz.prog 4 1 1 := ⟨by kernel_rfl⟩
instance bo_4 : IsBool Tryz.prog 4 := ⟨by kernel_rfl⟩
instance oc_5 : OneCell Tryz.prog 5 := ⟨fun _ => by kernel_rfl, fun _ => by kernel_rfl⟩
instance ze_5 : Zero Tryz.prog 5 (Value.int .u8 0) := ⟨fun _ => by kernel_rfl⟩
instance ce_5 : Cells Tryz.prog 5 1 1 := ⟨by kernel_rfl⟩
instance in_5 : IsInt Tryz.prog 5 .u8 := ⟨by kernel_rfl⟩
instance oc_6 : OneCell Tryz.prog 6 := ⟨fun _ => by kernel_rfl, fun _ => by kernel_rfl⟩
instance ze_6 : Zero Tryz.prog 6 (Value.int .u8 0) := ⟨fun _ => by kernel_rfl⟩
instance ce_6 : Cells Tryz.prog 6 1 1 := ⟨by kernel_rfl⟩
instance in_6 : IsInt Tryz.prog 6 .u8 := ⟨by kernel_rfl⟩
instance ag_7 : Agg Tryz.prog 7 4 := ⟨fun _ => by kernel_rfl, fun _ => by kernel_rfl⟩
instance ze_7 : Zero Tryz.prog 7 (Value.agg #[Value.int .i64 0, Value.int .i64 0, Value.bool false, Value.int .u8 0]) := ⟨fun _ => by kernel_rfl⟩
instance ce_7 : Cells Tryz.prog 7 4 24 := ⟨by kernel_rfl⟩
instance oc_9 : OneCell Tryz.prog 9 := ⟨fun _ => by kernel_rfl, fun _ => by kernel_rfl⟩
instance ze_9 : Zero Tryz.prog 9 (Value.string .empty) := ⟨fun _ => by kernel_rfl⟩
instance ce_9 : Cells Tryz.prog 9 1 16 := ⟨by kernel_rfl⟩
instance st_9 : IsStr Tryz.prog 9 := ⟨by kernel_rfl⟩
instance oc_11 : OneCell Tryz.prog 11 := ⟨fun _ => by kernel_rfl, fun _ => by kernel_rfl⟩
instance ze_11 : Zero Tryz.prog 11 (Value.string .empty) := ⟨fun _ => by kernel_rfl⟩
instance ce_11 : Cells Tryz.prog 11 1 16 := ⟨by kernel_rfl⟩
instance st_11 : IsStr Tryz.prog 11 := ⟨by kernel_rfl⟩
instance oc_12 : OneCell Tryz.prog 12 := ⟨fun _ => by kernel_rfl, fun _ => by kernel_rfl⟩
instance ze_12 : Zero Tryz.prog 12 (Value.int .u64 0) := ⟨fun _ => by kernel_rfl⟩
instance ce_12 : Cells Tryz.prog 12 1 8 := ⟨by kernel_rfl⟩
instance in_12 : IsInt Tryz.prog 12 .u64 := ⟨by kernel_rfl⟩
instance ag_13 : Agg Tryz.prog 13 2 := ⟨fun _ => by kernel_rfl, fun _ => by kernel_rfl⟩
instance ze_13 : Zero Tryz.prog 13 (Value.agg #[Value.string .empty, Value.int .u64 0]) := ⟨fun _ => by kernel_rfl⟩
instance ce_13 : Cells Tryz.prog 13 2 24 := ⟨by kernel_rfl⟩
instance oc_16 : OneCell Tryz.prog 16 := ⟨fun _ => by kernel_rfl, fun _ => by kernel_rfl⟩
instance ze_16 : Zero Tryz.prog 16 (Value.pointer none) := ⟨fun _ => by kernel_rfl⟩
instance ce_16 : Cells Tryz.prog 16 1 8 := ⟨by kernel_rfl⟩
instance pt_16 : IsPtr Tryz.prog 16 := ⟨_, (by kernel_rfl : Program.underlying _ _ = some (.pointer 273))⟩
instance oc_20 : OneCell Tryz.prog 20 := ⟨fun _ => by kernel_rfl, fun _ => by kernel_rfl⟩
instance ze_20 : Zero Tryz.prog 20 (Value.nilIface) := ⟨fun _ => by kernel_rfl⟩
instance ce_20 : Cells Tryz.prog 20 1 16 := ⟨by kernel_rfl⟩
instance oc_21 : OneCell Tryz.prog 21 := ⟨fun _ => by kernel_rfl, fun _ => by kernel_rfl⟩
instance ze_21 : Zero Tryz.prog 21 (Value.int .i32 0) := ⟨fun _ => by kernel_rfl⟩
instance ce_21 : Cells Tryz.prog 21 1 4 := ⟨by kernel_rfl⟩
instance in_21 : IsInt Tryz.prog 21 .i32 := ⟨by kernel_rfl⟩
instance oc_22 : OneCell Tryz.prog 22 := ⟨fun _ => by kernel_rfl, fun _ => by kernel_rfl⟩
instance ze_22 : Zero Tryz.prog 22 (Value.slice none 0 0) := ⟨fun _ => by kernel_rfl⟩
instance ce_22 : Cells Tryz.prog 22 1 24 := ⟨by kernel_rfl⟩
instance sl_22 : IsSlice Tryz.prog 22 74 := ⟨by kernel_rfl⟩
instance oc_23 : OneCell Tryz.prog 23 := ⟨fun _ => by kernel_rfl, fun _ => by kernel_rfl⟩
instance ze_23 : Zero Tryz.prog 23 (Value.slice none 0 0) := ⟨fun _ => by kernel_rfl⟩
instance ce_23 : Cells Tryz.prog 23 1 24 := ⟨by kernel_rfl⟩
instance sl_23 : IsSlice Tryz.prog 23 57 := ⟨by kernel_rfl⟩
instance oc_24 : OneCell Tryz.prog 24 := ⟨fun _ => by kernel_rfl, fun _ => by kernel_rfl⟩
instance ze_24 : Zero Tryz.prog 24 (Value.slice none 0 0) := ⟨fun _ => by kernel_rfl⟩
instance ce_24 : Cells Tryz.prog 24 1 24 := ⟨by kernel_rfl⟩
instance sl_24 : IsSlice Tryz.prog 24 34 := ⟨by kernel_rfl⟩
instance ag_29 : Agg Tryz.prog 29 2 := ⟨fun _ => by kernel_rfl, fun _ => by kernel_rfl⟩
instance ze_29 : Zero Tryz.prog 29 (Value.agg #[Value.int .i64 0, Value.bool false]) := ⟨fun _ => by kernel_rfl⟩
instance ce_29 : Cells Tryz.prog 29 2 16 := ⟨by kernel_rfl⟩
instance oc_30 : OneCell Tryz.prog 30 := ⟨fun _ => by kernel_rfl, fun _ => by kernel_rfl⟩
instance ze_30 : Zero Tryz.prog 30 (Value.int .i64 0) := ⟨fun _ => by kernel_rfl⟩
instance ce_30 : Cells Tryz.prog 30 1 8 := ⟨by kernel_rfl⟩
instance in_30 : IsInt Tryz.prog 30 .i64 := ⟨by kernel_rfl⟩
instance ag_34 : Agg Tryz.prog 34 3 := ⟨fun _ => by kernel_rfl, fun _ => by kernel_rfl⟩
instance ze_34 : Zero Tryz.prog 34 (Value.agg #[Value.bool false, Value.int .i64 0, Value.string .empty]) := ⟨fun _ => by kernel_rfl⟩
instance ce_34 : Cells Tryz.prog 34 3 32 := ⟨by kernel_rfl⟩
instance oc_37 : OneCell Tryz.prog 37 := ⟨fun _ => by kernel_rfl, fun _ => by kernel_rfl⟩
instance ze_37 : Zero Tryz.prog 37 (Value.slice none 0 0) := ⟨fun _ => by kernel_rfl⟩
instance ce_37 : Cells Tryz.prog 37 1 24 := ⟨by kernel_rfl⟩
instance sl_37 : IsSlice Tryz.prog 37 3 := ⟨by kernel_rfl⟩
instance ag_46 : Agg Tryz.prog 46 1 := ⟨fun _ => by kernel_rfl, fun _ => by kernel_rfl⟩
instance ze_46 : Zero Tryz.prog 46 (Value.agg #[Value.slice none 0 0]) := ⟨fun _ => by kernel_rfl⟩
instance ce_46 : Cells Tryz.prog 46 1 24 := ⟨by kernel_rfl⟩
instance ag_54 : Agg Tryz.prog 54 2 := ⟨fun _ => by kernel_rfl, fun _ => by kernel_rfl⟩
instance ze_54 : Zero Tryz.prog 54 (Value.agg #[Value.slice none 0 0, Value.slice none 0 0]) := ⟨fun _ => by kernel_rfl⟩
instance ce_54 : Cells Tryz.prog 54 2 48 := ⟨by kernel_rfl⟩
instance ar_54 : IsArray Tryz.prog 54 2 46 := ⟨by kernel_rfl⟩
instance ag_57 : Agg Tryz.prog 57 3 := ⟨fun _ => by kernel_rfl, fun _ => by kernel_rfl⟩
instance ze_57 : Zero Tryz.prog 57 (Value.agg #[Value.int .i64 0, Value.int .i64 0, Value.string .empty]) := ⟨fun _ => by kernel_rfl⟩
instance ce_57 : Cells Tryz.prog 57 3 32 := ⟨by kernel_rfl⟩
instance oc_68 : OneCell Tryz.prog 68 := ⟨fun _ => by kernel_rfl, fun _ => by kernel_rfl⟩
instance ze_68 : Zero Tryz.prog 68 (Value.nilFunc) := ⟨fun _ => by kernel_rfl⟩
instance ce_68 : Cells Tryz.prog 68 1 8 := ⟨by kernel_rfl⟩
instance oc_69 : OneCell Tryz.prog 69 := ⟨fun _ => by kernel_rfl, fun _ => by kernel_rfl⟩
instance ze_69 : Zero Tryz.prog 69 (Value.slice none 0 0) := ⟨fun _ => by kernel_rfl⟩
instance ce_69 : Cells Tryz.prog 69 1 24 := ⟨by kernel_rfl⟩
instance sl_69 : IsSlice Tryz.prog 69 2 := ⟨by kernel_rfl⟩
instance oc_70 : OneCell Tryz.prog 70 := ⟨fun _ => by kernel_rfl, fun _ => by kernel_rfl⟩
instance ze_70 : Zero Tryz.prog 70 (Value.slice none 0 0) := ⟨fun _ => by kernel_rfl⟩
instance ce_70 : Cells Tryz.prog 70 1 24 := ⟨by kernel_rfl⟩
instance sl_70 : IsSlice Tryz.prog 70 9 := ⟨by kernel_rfl⟩
instance oc_71 : OneCell Tryz.prog 71 := ⟨fun _ => by kernel_rfl, fun _ => by kernel_rfl⟩
instance ze_71 : Zero Tryz.prog 71 (Value.slice none 0 0) := ⟨fun _ => by kernel_rfl⟩
instance ce_71 : Cells Tryz.prog 71 1 24 := ⟨by kernel_rfl⟩
instance sl_71 : IsSlice Tryz.prog 71 5 := ⟨by kernel_rfl⟩
instance ag_74 : Agg Tryz.prog 74 7 := ⟨fun _ => by kernel_rfl, fun _ => by kernel_rfl⟩
instance ze_74 : Zero Tryz.prog 74 (Value.agg #[Value.int .i64 0, Value.string .empty, Value.int .i64 0, Value.bool false, Value.bool false, Value.int .i64 0, Value.string .empty]) := ⟨fun _ => by kernel_rfl⟩
instance ce_74 : Cells Tryz.prog 74 7 72 := ⟨by kernel_rfl⟩
instance oc_75 : OneCell Tryz.prog 75 := ⟨fun _ => by kernel_rfl, fun _ => by kernel_rfl⟩
instance ze_75 : Zero Tryz.prog 75 (Value.slice none 0 0) := ⟨fun _ => by kernel_rfl⟩
instance ce_75 : Cells Tryz.prog 75 1 24 := ⟨by kernel_rfl⟩
instance sl_75 : IsSlice Tryz.prog 75 29 := ⟨by kernel_rfl⟩
instance ag_77 : Agg Tryz.prog 77 1 := ⟨fun _ => by kernel_rfl, fun _ => by kernel_rfl⟩
instance ze_77 : Zero Tryz.prog 77 (Value.agg #[Value.slice none 0 0]) := ⟨fun _ => by kernel_rfl⟩
instance ce_77 : Cells Tryz.prog 77 1 24 := ⟨by kernel_rfl⟩
instance ag_89 : Agg Tryz.prog 89 1 := ⟨fun _ => by kernel_rfl, fun _ => by kernel_rfl⟩
instance ze_89 : Zero Tryz.prog 89 (Value.agg #[Value.slice none 0 0]) := ⟨fun _ => by kernel_rfl⟩
instance ce_89 : Cells Tryz.prog 89 1 24 := ⟨by kernel_rfl⟩
instance oc_99 : OneCell Tryz.prog 99 := ⟨fun _ => by kernel_rfl, fun _ => by kernel_rfl⟩
instance ze_99 : Zero Tryz.prog 99 (Value.nilFunc) := ⟨fun _ => by kernel_rfl⟩
instance ce_99 : Cells Tryz.prog 99 1 8 := ⟨by kernel_rfl⟩
instance oc_100 : OneCell Tryz.prog 100 := ⟨fun _ => by kernel_rfl, fun _ => by kernel_rfl⟩
instance ze_100 : Zero Tryz.prog 100 (Value.nilFunc) := ⟨fun _ => by kernel_rfl⟩
instance ce_100 : Cells Tryz.prog 100 1 8 := ⟨by kernel_rfl⟩
instance oc_101 : OneCell Tryz.prog 101 := ⟨fun _ => by kernel_rfl, fun _ => by kernel_rfl⟩
instance ze_101 : Zero Tryz.prog 101 (Value.nilFunc) := ⟨fun _ => by kernel_rfl⟩
instance ce_101 : Cells Tryz.prog 101 1 8 := ⟨by kernel_rfl⟩
instance oc_102 : OneCell Tryz.prog 102 := ⟨fun _ => by kernel_rfl, fun _ => by kernel_rfl⟩
instance ze_102 : Zero Tryz.prog 102 (Value.nilFunc) := ⟨fun _ => by kernel_rfl⟩
instance ce_102 : Cells Tryz.prog 102 1 8 := ⟨by kernel_rfl⟩
instance ag_105 : Agg Tryz.prog 105 5 := ⟨fun _ => by kernel_rfl, fun _ => by kernel_rfl⟩
instance ze_105 : Zero Tryz.prog 105 (Value.agg #[Value.nilFunc, Value.nilFunc, Value.nilFunc, Value.nilFunc, Value.nilFunc]) := ⟨fun _ => by kernel_rfl⟩
instance ce_105 : Cells Tryz.prog 105 5 40 := ⟨by kernel_rfl⟩
instance oc_107 : OneCell Tryz.prog 107 := ⟨fun _ => by kernel_rfl, fun _ => by kernel_rfl⟩
instance ze_107 : Zero Tryz.prog 107 (Value.nilFunc) := ⟨fun _ => by kernel_rfl⟩
instance ce_107 : Cells Tryz.prog 107 1 8 := ⟨by kernel_rfl⟩
instance oc_108 : OneCell Tryz.prog 108 := ⟨fun _ => by kernel_rfl, fun _ => by kernel_rfl⟩
instance ze_108 : Zero Tryz.prog 108 (Value.int .u64 0) := ⟨fun _ => by kernel_rfl⟩
instance ce_108 : Cells Tryz.prog 108 1 8 := ⟨by kernel_rfl⟩
instance in_108 : IsInt Tryz.prog 108 .u64 := ⟨by kernel_rfl⟩
instance oc_111 : OneCell Tryz.prog 111 := ⟨fun _ => by kernel_rfl, fun _ => by kernel_rfl⟩
instance ze_111 : Zero Tryz.prog 111 (Value.nilFunc) := ⟨fun _ => by kernel_rfl⟩
instance ce_111 : Cells Tryz.prog 111 1 8 := ⟨by kernel_rfl⟩
instance oc_112 : OneCell Tryz.prog 112 := ⟨fun _ => by kernel_rfl, fun _ => by kernel_rfl⟩
instance ze_112 : Zero Tryz.prog 112 (Value.nilFunc) := ⟨fun _ => by kernel_rfl⟩
instance ce_112 : Cells Tryz.prog 112 1 8 := ⟨by kernel_rfl⟩
instance oc_120 : OneCell Tryz.prog 120 := ⟨fun _ => by kernel_rfl, fun _ => by kernel_rfl⟩
instance ze_120 : Zero Tryz.prog 120 (Value.pointer none) := ⟨fun _ => by kernel_rfl⟩
instance ce_120 : Cells Tryz.prog 120 1 8 := ⟨by kernel_rfl⟩
instance pt_120 : IsPtr Tryz.prog 120 := ⟨_, (by kernel_rfl : Program.underlying _ _ = some (.pointer 122))⟩
instance ag_122 : Agg Tryz.prog 122 2 := ⟨fun _ => by kernel_rfl, fun _ => by kernel_rfl⟩
instance ze_122 : Zero Tryz.prog 122 (Value.agg #[Value.pointer none, Value.slice none 0 0]) := ⟨fun _ => by kernel_rfl⟩
instance ce_122 : Cells Tryz.prog 122 2 32 := ⟨by kernel_rfl⟩
instance oc_125 : OneCell Tryz.prog 125 := ⟨fun _ => by kernel_rfl, fun _ => by kernel_rfl⟩
instance ze_125 : Zero Tryz.prog 125 (Value.nilIface) := ⟨fun _ => by kernel_rfl⟩
instance ce_125 : Cells Tryz.prog 125 1 16 := ⟨by kernel_rfl⟩
instance oc_130 : OneCell Tryz.prog 130 := ⟨fun _ => by kernel_rfl, fun _ => by kernel_rfl⟩
instance ze_130 : Zero Tryz.prog 130 (Value.pointer none) := ⟨fun _ => by kernel_rfl⟩
instance ce_130 : Cells Tryz.prog 130 1 8 := ⟨by kernel_rfl⟩
instance pt_130 : IsPtr Tryz.prog 130 := ⟨_, (by kernel_rfl : Program.underlying _ _ = some (.pointer 77))⟩
instance ag_132 : Agg Tryz.prog 132 6 := ⟨fun _ => by kernel_rfl, fun _ => by kernel_rfl⟩
instance ze_132 : Zero Tryz.prog 132 (Value.agg #[Value.int .i64 0, Value.int .i64 0, Value.int .i64 0, Value.int .i64 0, Value.int .i64 0, Value.int .i64 0]) := ⟨fun _ => by kernel_rfl⟩
instance ce_132 : Cells Tryz.prog 132 6 48 := ⟨by kernel_rfl⟩
instance ar_132 : IsArray Tryz.prog 132 6 3 := ⟨by kernel_rfl⟩
instance oc_135 : OneCell Tryz.prog 135 := ⟨fun _ => by kernel_rfl, fun _ => by kernel_rfl⟩
instance ze_135 : Zero Tryz.prog 135 (Value.nilFunc) := ⟨fun _ => by kernel_rfl⟩
instance ce_135 : Cells Tryz.prog 135 1 8 := ⟨by kernel_rfl⟩
instance oc_137 : OneCell Tryz.prog 137 := ⟨fun _ => by kernel_rfl, fun _ => by kernel_rfl⟩
instance ze_137 : Zero Tryz.prog 137 (Value.nilFunc) := ⟨fun _ => by kernel_rfl⟩
instance ce_137 : Cells Tryz.prog 137 1 8 := ⟨by kernel_rfl⟩
instance oc_138 : OneCell Tryz.prog 138 := ⟨fun _ => by kernel_rfl, fun _ => by kernel_rfl⟩
instance ze_138 : Zero Tryz.prog 138 (Value.pointer none) := ⟨fun _ => by kernel_rfl⟩
instance ce_138 : Cells Tryz.prog 138 1 8 := ⟨by kernel_rfl⟩
instance pt_138 : IsPtr Tryz.prog 138 := ⟨_, (by kernel_rfl : Program.underlying _ _ = some (.pointer 89))⟩
instance oc_144 : OneCell Tryz.prog 144 := ⟨fun _ => by kernel_rfl, fun _ => by kernel_rfl⟩
instance ze_144 : Zero Tryz.prog 144 (Value.nilFunc) := ⟨fun _ => by kernel_rfl⟩
instance ce_144 : Cells Tryz.prog 144 1 8 := ⟨by kernel_rfl⟩
instance oc_151 : OneCell Tryz.prog 151 := ⟨fun _ => by kernel_rfl, fun _ => by kernel_rfl⟩
instance ze_151 : Zero Tryz.prog 151 (Value.pointer none) := ⟨fun _ => by kernel_rfl⟩
instance ce_151 : Cells Tryz.prog 151 1 8 := ⟨by kernel_rfl⟩
instance pt_151 : IsPtr Tryz.prog 151 := ⟨_, (by kernel_rfl : Program.underlying _ _ = some (.pointer 46))⟩
instance oc_155 : OneCell Tryz.prog 155 := ⟨fun _ => by kernel_rfl, fun _ => by kernel_rfl⟩
instance ze_155 : Zero Tryz.prog 155 (Value.nilFunc) := ⟨fun _ => by kernel_rfl⟩
instance ce_155 : Cells Tryz.prog 155 1 8 := ⟨by kernel_rfl⟩
instance ag_157 : Agg Tryz.prog 157 30 := ⟨fun _ => by kernel_rfl, fun _ => by kernel_rfl⟩
instance ze_157 : Zero Tryz.prog 157 (Value.agg (List.replicate 30 (Value.nilFunc)).toArray) := ⟨fun _ => by kernel_rfl⟩
instance ce_157 : Cells Tryz.prog 157 30 240 := ⟨by kernel_rfl⟩
instance ar_157 : IsArray Tryz.prog 157 6 105 := ⟨by kernel_rfl⟩
instance oc_175 : OneCell Tryz.prog 175 := ⟨fun _ => by kernel_rfl, fun _ => by kernel_rfl⟩
instance ze_175 : Zero Tryz.prog 175 (Value.int .u32 0) := ⟨fun _ => by kernel_rfl⟩
instance ce_175 : Cells Tryz.prog 175 1 4 := ⟨by kernel_rfl⟩
instance in_175 : IsInt Tryz.prog 175 .u32 := ⟨by kernel_rfl⟩
instance oc_178 : OneCell Tryz.prog 178 := ⟨fun _ => by kernel_rfl, fun _ => by kernel_rfl⟩
instance ze_178 : Zero Tryz.prog 178 (Value.int .u64 0) := ⟨fun _ => by kernel_rfl⟩
instance ce_178 : Cells Tryz.prog 178 1 8 := ⟨by kernel_rfl⟩
instance in_178 : IsInt Tryz.prog 178 .u64 := ⟨by kernel_rfl⟩
instance oc_181 : OneCell Tryz.prog 181 := ⟨fun _ => by kernel_rfl, fun _ => by kernel_rfl⟩
instance ze_181 : Zero Tryz.prog 181 (Value.pointer none) := ⟨fun _ => by kernel_rfl⟩
instance ce_181 : Cells Tryz.prog 181 1 8 := ⟨by kernel_rfl⟩
instance pt_181 : IsPtr Tryz.prog 181 := ⟨_, (by kernel_rfl : Program.underlying _ _ = some (.pointer 5))⟩
instance oc_191 : OneCell Tryz.prog 191 := ⟨fun _ => by kernel_rfl, fun _ => by kernel_rfl⟩
instance ze_191 : Zero Tryz.prog 191 (Value.int .i64 0) := ⟨fun _ => by kernel_rfl⟩
instance ce_191 : Cells Tryz.prog 191 1 8 := ⟨by kernel_rfl⟩
instance in_191 : IsInt Tryz.prog 191 .i64 := ⟨by kernel_rfl⟩
instance ag_201 : Agg Tryz.prog 201 8 := ⟨fun _ => by kernel_rfl, fun _ => by kernel_rfl⟩
instance ze_201 : Zero Tryz.prog 201 (Value.agg (List.replicate 8 (Value.int .u8 0)).toArray) := ⟨fun _ => by kernel_rfl⟩
instance ce_201 : Cells Tryz.prog 201 8 8 := ⟨by kernel_rfl⟩
instance ar_201 : IsArray Tryz.prog 201 8 5 := ⟨by kernel_rfl⟩
instance oc_204 : OneCell Tryz.prog 204 := ⟨fun _ => by kernel_rfl, fun _ => by kernel_rfl⟩
instance ze_204 : Zero Tryz.prog 204 (Value.map none) := ⟨fun _ => by kernel_rfl⟩
instance ce_204 : Cells Tryz.prog 204 1 8 := ⟨by kernel_rfl⟩
instance ma_204 : IsMap Tryz.prog 204 21 5 := ⟨by kernel_rfl⟩
instance oc_213 : OneCell Tryz.prog 213 := ⟨fun _ => by kernel_rfl, fun _ => by kernel_rfl⟩
instance ze_213 : Zero Tryz.prog 213 (Value.pointer none) := ⟨fun _ => by kernel_rfl⟩
instance ce_213 : Cells Tryz.prog 213 1 8 := ⟨by kernel_rfl⟩
instance pt_213 : IsPtr Tryz.prog 213 := ⟨_, (by kernel_rfl : Program.underlying _ _ = some (.pointer 215))⟩
instance ag_215 : Agg Tryz.prog 215 3 := ⟨fun _ => by kernel_rfl, fun _ => by kernel_rfl⟩
instance ze_215 : Zero Tryz.prog 215 (Value.agg #[Value.string .empty, Value.int .i64 0, Value.int .i64 0]) := ⟨fun _ => by kernel_rfl⟩
instance ce_215 : Cells Tryz.prog 215 3 32 := ⟨by kernel_rfl⟩
instance oc_218 : OneCell Tryz.prog 218 := ⟨fun _ => by kernel_rfl, fun _ => by kernel_rfl⟩
instance ze_218 : Zero Tryz.prog 218 (Value.pointer none) := ⟨fun _ => by kernel_rfl⟩
instance ce_218 : Cells Tryz.prog 218 1 8 := ⟨by kernel_rfl⟩
instance oc_225 : OneCell Tryz.prog 225 := ⟨fun _ => by kernel_rfl, fun _ => by kernel_rfl⟩
instance ze_225 : Zero Tryz.prog 225 (Value.int .u64 0) := ⟨fun _ => by kernel_rfl⟩
instance ce_225 : Cells Tryz.prog 225 1 8 := ⟨by kernel_rfl⟩
instance in_225 : IsInt Tryz.prog 225 .u64 := ⟨by kernel_rfl⟩
instance oc_229 : OneCell Tryz.prog 229 := ⟨fun _ => by kernel_rfl, fun _ => by kernel_rfl⟩
instance ze_229 : Zero Tryz.prog 229 (Value.pointer none) := ⟨fun _ => by kernel_rfl⟩
instance ce_229 : Cells Tryz.prog 229 1 8 := ⟨by kernel_rfl⟩
instance pt_229 : IsPtr Tryz.prog 229 := ⟨_, (by kernel_rfl : Program.underlying _ _ = some (.pointer 3))⟩
instance ag_233 : Agg Tryz.prog 233 256 := ⟨fun _ => by kernel_rfl, fun _ => by kernel_rfl⟩
instance ze_233 : Zero Tryz.prog 233 (Value.agg (List.replicate 256 (Value.int .u8 0)).toArray) := ⟨fun _ => by kernel_rfl⟩
instance ce_233 : Cells Tryz.prog 233 256 256 := ⟨by kernel_rfl⟩
instance ar_233 : IsArray Tryz.prog 233 256 5 := ⟨by kernel_rfl⟩
instance ag_235 : Agg Tryz.prog 235 2 := ⟨fun _ => by kernel_rfl, fun _ => by kernel_rfl⟩
instance ze_235 : Zero Tryz.prog 235 (Value.agg #[Value.int .u8 0, Value.int .u8 0]) := ⟨fun _ => by kernel_rfl⟩
instance ce_235 : Cells Tryz.prog 235 2 2 := ⟨by kernel_rfl⟩
instance ag_236 : Agg Tryz.prog 236 32 := ⟨fun _ => by kernel_rfl, fun _ => by kernel_rfl⟩
instance ze_236 : Zero Tryz.prog 236 (Value.agg (List.replicate 32 (Value.int .u8 0)).toArray) := ⟨fun _ => by kernel_rfl⟩
instance ce_236 : Cells Tryz.prog 236 32 32 := ⟨by kernel_rfl⟩
instance ar_236 : IsArray Tryz.prog 236 16 235 := ⟨by kernel_rfl⟩
instance ag_237 : Agg Tryz.prog 237 24 := ⟨fun _ => by kernel_rfl, fun _ => by kernel_rfl⟩
instance ze_237 : Zero Tryz.prog 237 (Value.agg (List.replicate 24 (Value.int .u8 0)).toArray) := ⟨fun _ => by kernel_rfl⟩
instance ce_237 : Cells Tryz.prog 237 24 24 := ⟨by kernel_rfl⟩
instance ar_237 : IsArray Tryz.prog 237 24 5 := ⟨by kernel_rfl⟩
instance oc_242 : OneCell Tryz.prog 242 := ⟨fun _ => by kernel_rfl, fun _ => by kernel_rfl⟩
instance ze_242 : Zero Tryz.prog 242 (Value.int .i64 0) := ⟨fun _ => by kernel_rfl⟩
instance ce_242 : Cells Tryz.prog 242 1 8 := ⟨by kernel_rfl⟩
instance in_242 : IsInt Tryz.prog 242 .i64 := ⟨by kernel_rfl⟩
instance oc_245 : OneCell Tryz.prog 245 := ⟨fun _ => by kernel_rfl, fun _ => by kernel_rfl⟩
instance ze_245 : Zero Tryz.prog 245 (Value.pointer none) := ⟨fun _ => by kernel_rfl⟩
instance ce_245 : Cells Tryz.prog 245 1 8 := ⟨by kernel_rfl⟩
instance pt_245 : IsPtr Tryz.prog 245 := ⟨_, (by kernel_rfl : Program.underlying _ _ = some (.pointer 261))⟩
instance oc_253 : OneCell Tryz.prog 253 := ⟨fun _ => by kernel_rfl, fun _ => by kernel_rfl⟩
instance ze_253 : Zero Tryz.prog 253 (Value.pointer none) := ⟨fun _ => by kernel_rfl⟩
instance ce_253 : Cells Tryz.prog 253 1 8 := ⟨by kernel_rfl⟩
instance pt_253 : IsPtr Tryz.prog 253 := ⟨_, (by kernel_rfl : Program.underlying _ _ = some (.pointer 225))⟩
instance ag_257 : Agg Tryz.prog 257 20 := ⟨fun _ => by kernel_rfl, fun _ => by kernel_rfl⟩
instance ze_257 : Zero Tryz.prog 257 (Value.agg (List.replicate 20 (Value.int .u64 0)).toArray) := ⟨fun _ => by kernel_rfl⟩
instance ce_257 : Cells Tryz.prog 257 20 160 := ⟨by kernel_rfl⟩
instance ar_257 : IsArray Tryz.prog 257 20 178 := ⟨by kernel_rfl⟩
instance ag_258 : Agg Tryz.prog 258 65 := ⟨fun _ => by kernel_rfl, fun _ => by kernel_rfl⟩
instance ze_258 : Zero Tryz.prog 258 (Value.agg (List.replicate 65 (Value.int .u8 0)).toArray) := ⟨fun _ => by kernel_rfl⟩
instance ce_258 : Cells Tryz.prog 258 65 65 := ⟨by kernel_rfl⟩
instance ar_258 : IsArray Tryz.prog 258 65 5 := ⟨by kernel_rfl⟩
instance ag_261 : Agg Tryz.prog 261 3 := ⟨fun _ => by kernel_rfl, fun _ => by kernel_rfl⟩
instance ze_261 : Zero Tryz.prog 261 (Value.agg #[Value.string .empty, Value.string .empty, Value.nilIface]) := ⟨fun _ => by kernel_rfl⟩
instance ce_261 : Cells Tryz.prog 261 3 48 := ⟨by kernel_rfl⟩
instance oc_264 : OneCell Tryz.prog 264 := ⟨fun _ => by kernel_rfl, fun _ => by kernel_rfl⟩
instance ze_264 : Zero Tryz.prog 264 (Value.pointer none) := ⟨fun _ => by kernel_rfl⟩
instance ce_264 : Cells Tryz.prog 264 1 8 := ⟨by kernel_rfl⟩
instance pt_264 : IsPtr Tryz.prog 264 := ⟨_, (by kernel_rfl : Program.underlying _ _ = some (.pointer 266))⟩
instance ag_266 : Agg Tryz.prog 266 1 := ⟨fun _ => by kernel_rfl, fun _ => by kernel_rfl⟩
instance ze_266 : Zero Tryz.prog 266 (Value.agg #[Value.string .empty]) := ⟨fun _ => by kernel_rfl⟩
instance ce_266 : Cells Tryz.prog 266 1 16 := ⟨by kernel_rfl⟩
instance ag_267 : Agg Tryz.prog 267 32 := ⟨fun _ => by kernel_rfl, fun _ => by kernel_rfl⟩
instance ze_267 : Zero Tryz.prog 267 (Value.agg (List.replicate 32 (Value.int .u8 0)).toArray) := ⟨fun _ => by kernel_rfl⟩
instance ce_267 : Cells Tryz.prog 267 32 32 := ⟨by kernel_rfl⟩
instance ar_267 : IsArray Tryz.prog 267 32 5 := ⟨by kernel_rfl⟩
instance ag_268 : Agg Tryz.prog 268 64 := ⟨fun _ => by kernel_rfl, fun _ => by kernel_rfl⟩
instance ze_268 : Zero Tryz.prog 268 (Value.agg (List.replicate 64 (Value.int .u8 0)).toArray) := ⟨fun _ => by kernel_rfl⟩
instance ce_268 : Cells Tryz.prog 268 64 64 := ⟨by kernel_rfl⟩
instance ar_268 : IsArray Tryz.prog 268 64 5 := ⟨by kernel_rfl⟩
instance ag_273 : Agg Tryz.prog 273 0 := ⟨fun _ => by kernel_rfl, fun _ => by kernel_rfl⟩
instance ze_273 : Zero Tryz.prog 273 (Value.agg #[]) := ⟨fun _ => by kernel_rfl⟩
instance ce_273 : Cells Tryz.prog 273 0 0 := ⟨by kernel_rfl⟩
instance bs_29 : BuildS Tryz.prog 29 ((Value.int .i64 0) :: (Value.bool false) :: []) [(0, 1), (1, 1)] := ⟨fun _ => by kernel_rfl, _, Tryz.underlying29, fun _ => by kernel_rfl⟩
instance bs_34 : BuildS Tryz.prog 34 ((Value.bool false) :: (Value.int .i64 0) :: (Value.string .empty) :: []) [(0, 1), (1, 1), (2, 1)] := ⟨fun _ => by kernel_rfl, _, Tryz.underlying34, fun _ => by kernel_rfl⟩
instance bs_46 : BuildS Tryz.prog 46 ((Value.slice none 0 0) :: []) [(0, 1)] := ⟨fun _ => by kernel_rfl, _, Tryz.underlying46, fun _ => by kernel_rfl⟩
instance bs_57 : BuildS Tryz.prog 57 ((Value.int .i64 0) :: (Value.int .i64 0) :: (Value.string .empty) :: []) [(0, 1), (1, 1), (2, 1)] := ⟨fun _ => by kernel_rfl, _, Tryz.underlying57, fun _ => by kernel_rfl⟩
instance bs_74 : BuildS Tryz.prog 74 ((Value.int .i64 0) :: (Value.string .empty) :: (Value.int .i64 0) :: (Value.bool false) :: (Value.bool false) :: (Value.int .i64 0) :: (Value.string .empty) :: []) [(0, 1), (1, 1), (2, 2), (4, 3)] := ⟨fun _ => by kernel_rfl, _, Tryz.underlying74, fun _ => by kernel_rfl⟩
instance bs_105 : BuildS Tryz.prog 105 ((Value.nilFunc) :: (Value.nilFunc) :: (Value.nilFunc) :: (Value.nilFunc) :: (Value.nilFunc) :: []) [(0, 1), (1, 1), (2, 1), (3, 1), (4, 1)] := ⟨fun _ => by kernel_rfl, _, Tryz.underlying105, fun _ => by kernel_rfl⟩
instance bs_215 : BuildS Tryz.prog 215 ((Value.string .empty) :: (Value.int .i64 0) :: (Value.int .i64 0) :: []) [(0, 1), (1, 1), (2, 1)] := ⟨fun _ => by kernel_rfl, _, Tryz.underlying215, fun _ => by kernel_rfl⟩
instance bs_235 : BuildS Tryz.prog 235 ((Value.int .u8 0) :: (Value.int .u8 0) :: []) [(0, 1), (1, 1)] := ⟨fun _ => by kernel_rfl, _, Tryz.underlying235, fun _ => by kernel_rfl⟩
instance bs_261 : BuildS Tryz.prog 261 ((Value.string .empty) :: (Value.string .empty) :: (Value.nilIface) :: []) [(0, 1), (1, 1), (2, 1)] := ⟨fun _ => by kernel_rfl, _, Tryz.underlying261, fun _ => by kernel_rfl⟩
instance bs_266 : BuildS Tryz.prog 266 ((Value.string .empty) :: []) [(0, 1)] := ⟨fun _ => by kernel_rfl, _, Tryz.underlying266, fun _ => by kernel_rfl⟩
instance fa_29_0 : FieldAt Tryz.prog 29 0 0 := ⟨fun _ _ => by kernel_rfl⟩
instance fa_29_1 : FieldAt Tryz.prog 29 1 1 := ⟨fun _ _ => by kernel_rfl⟩
instance fa_34_0 : FieldAt Tryz.prog 34 0 0 := ⟨fun _ _ => by kernel_rfl⟩
instance fa_34_1 : FieldAt Tryz.prog 34 1 1 := ⟨fun _ _ => by kernel_rfl⟩
instance fa_34_2 : FieldAt Tryz.prog 34 2 2 := ⟨fun _ _ => by kernel_rfl⟩
instance fa_46_0 : FieldAt Tryz.prog 46 0 0 := ⟨fun _ _ => by kernel_rfl⟩
instance fa_57_0 : FieldAt Tryz.prog 57 0 0 := ⟨fun _ _ => by kernel_rfl⟩
instance fa_57_1 : FieldAt Tryz.prog 57 1 1 := ⟨fun _ _ => by kernel_rfl⟩
instance fa_57_2 : FieldAt Tryz.prog 57 2 2 := ⟨fun _ _ => by kernel_rfl⟩
instance fa_74_0 : FieldAt Tryz.prog 74 0 0 := ⟨fun _ _ => by kernel_rfl⟩
instance fa_74_2 : FieldAt Tryz.prog 74 2 2 := ⟨fun _ _ => by kernel_rfl⟩
instance fa_77_0 : FieldAt Tryz.prog 77 0 0 := ⟨fun _ _ => by kernel_rfl⟩
instance fa_89_0 : FieldAt Tryz.prog 89 0 0 := ⟨fun _ _ => by kernel_rfl⟩
instance fa_122_0 : FieldAt Tryz.prog 122 0 0 := ⟨fun _ _ => by kernel_rfl⟩
instance fa_122_1 : FieldAt Tryz.prog 122 1 1 := ⟨fun _ _ => by kernel_rfl⟩
instance fa_215_0 : FieldAt Tryz.prog 215 0 0 := ⟨fun _ _ => by kernel_rfl⟩
instance fa_215_1 : FieldAt Tryz.prog 215 1 1 := ⟨fun _ _ => by kernel_rfl⟩
instance fa_215_2 : FieldAt Tryz.prog 215 2 2 := ⟨fun _ _ => by kernel_rfl⟩
instance fa_235_0 : FieldAt Tryz.prog 235 0 0 := ⟨fun _ _ => by kernel_rfl⟩
instance fa_235_1 : FieldAt Tryz.prog 235 1 1 := ⟨fun _ _ => by kernel_rfl⟩
instance fo_105_0 : FieldOf Tryz.prog 105 0 0 100 := ⟨_, Tryz.underlying105, rfl⟩
instance fo_105_1 : FieldOf Tryz.prog 105 1 1 101 := ⟨_, Tryz.underlying105, rfl⟩
instance fo_105_2 : FieldOf Tryz.prog 105 2 2 102 := ⟨_, Tryz.underlying105, rfl⟩
instance en_3 : Enters Tryz.prog 3 := ⟨fun _ _ => by kernel_rfl⟩
instance en_4 : Enters Tryz.prog 4 := ⟨fun _ _ => by kernel_rfl⟩
instance en_5 : Enters Tryz.prog 5 := ⟨fun _ _ => by kernel_rfl⟩
instance en_6 : Enters Tryz.prog 6 := ⟨fun _ _ => by kernel_rfl⟩
instance en_7 : Enters Tryz.prog 7 := ⟨fun _ _ => by kernel_rfl⟩
instance en_8 : Enters Tryz.prog 8 := ⟨fun _ _ => by kernel_rfl⟩
instance en_9 : Enters Tryz.prog 9 := ⟨fun _ _ => by kernel_rfl⟩
instance en_10 : Enters Tryz.prog 10 := ⟨fun _ _ => by kernel_rfl⟩
instance en_11 : Enters Tryz.prog 11 := ⟨fun _ _ => by kernel_rfl⟩
instance en_12 : Enters Tryz.prog 12 := ⟨fun _ _ => by kernel_rfl⟩
instance en_13 : Enters Tryz.prog 13 := ⟨fun _ _ => by kernel_rfl⟩
instance en_14 : Enters Tryz.prog 14 := ⟨fun _ _ => by kernel_rfl⟩
instance en_15 : Enters Tryz.prog 15 := ⟨fun _ _ => by kernel_rfl⟩
instance en_16 : Enters Tryz.prog 16 := ⟨fun _ _ => by kernel_rfl⟩
instance en_17 : Enters Tryz.prog 17 := ⟨fun _ _ => by kernel_rfl⟩
instance en_18 : Enters Tryz.prog 18 := ⟨fun _ _ => by kernel_rfl⟩
instance en_19 : Enters Tryz.prog 19 := ⟨fun _ _ => by kernel_rfl⟩
instance en_20 : Enters Tryz.prog 20 := ⟨fun _ _ => by kernel_rfl⟩
instance en_21 : Enters Tryz.prog 21 := ⟨fun _ _ => by kernel_rfl⟩
instance en_22 : Enters Tryz.prog 22 := ⟨fun _ _ => by kernel_rfl⟩
instance en_23 : Enters Tryz.prog 23 := ⟨fun _ _ => by kernel_rfl⟩
instance en_24 : Enters Tryz.prog 24 := ⟨fun _ _ => by kernel_rfl⟩
instance en_25 : Enters Tryz.prog 25 := ⟨fun _ _ => by kernel_rfl⟩
instance en_26 : Enters Tryz.prog 26 := ⟨fun _ _ => by kernel_rfl⟩
instance en_27 : Enters Tryz.prog 27 := ⟨fun _ _ => by kernel_rfl⟩
instance en_28 : Enters Tryz.prog 28 := ⟨fun _ _ => by kernel_rfl⟩
instance en_29 : Enters Tryz.prog 29 := ⟨fun _ _ => by kernel_rfl⟩
instance en_30 : Enters Tryz.prog 30 := ⟨fun _ _ => by kernel_rfl⟩
instance en_31 : Enters Tryz.prog 31 := ⟨fun _ _ => by kernel_rfl⟩
instance en_32 : Enters Tryz.prog 32 := ⟨fun _ _ => by kernel_rfl⟩
instance en_33 : Enters Tryz.prog 33 := ⟨fun _ _ => by kernel_rfl⟩
instance en_34 : Enters Tryz.prog 34 := ⟨fun _ _ => by kernel_rfl⟩
instance en_35 : Enters Tryz.prog 35 := ⟨fun _ _ => by kernel_rfl⟩
instance en_36 : Enters Tryz.prog 36 := ⟨fun _ _ => by kernel_rfl⟩
instance en_37 : Enters Tryz.prog 37 := ⟨fun _ _ => by kernel_rfl⟩
instance en_38 : Enters Tryz.prog 38 := ⟨fun _ _ => by kernel_rfl⟩
instance en_39 : Enters Tryz.prog 39 := ⟨fun _ _ => by kernel_rfl⟩
instance en_40 : Enters Tryz.prog 40 := ⟨fun _ _ => by kernel_rfl⟩
instance en_41 : Enters Tryz.prog 41 := ⟨fun _ _ => by kernel_rfl⟩
instance en_42 : Enters Tryz.prog 42 := ⟨fun _ _ => by kernel_rfl⟩
instance en_43 : Enters Tryz.prog 43 := ⟨fun _ _ => by kernel_rfl⟩
instance en_44 : Enters Tryz.prog 44 := ⟨fun _ _ => by kernel_rfl⟩
instance en_45 : Enters Tryz.prog 45 := ⟨fun _ _ => by kernel_rfl⟩
instance en_46 : Enters Tryz.prog 46 := ⟨fun _ _ => by kernel_rfl⟩
instance en_47 : Enters Tryz.prog 47 := ⟨fun _ _ => by kernel_rfl⟩
instance en_48 : Enters Tryz.prog 48 := ⟨fun _ _ => by kernel_rfl⟩
instance en_49 : Enters Tryz.prog 49 := ⟨fun _ _ => by kernel_rfl⟩
instance en_50 : Enters Tryz.prog 50 := ⟨fun _ _ => by kernel_rfl⟩
instance en_51 : Enters Tryz.prog 51 := ⟨fun _ _ => by kernel_rfl⟩
instance en_52 : Enters Tryz.prog 52 := ⟨fun _ _ => by kernel_rfl⟩
instance en_53 : Enters Tryz.prog 53 := ⟨fun _ _ => by kernel_rfl⟩
instance en_54 : Enters Tryz.prog 54 := ⟨fun _ _ => by kernel_rfl⟩
instance en_55 : Enters Tryz.prog 55 := ⟨fun _ _ => by kernel_rfl⟩
instance en_56 : Enters Tryz.prog 56 := ⟨fun _ _ => by kernel_rfl⟩
instance en_57 : Enters Tryz.prog 57 := ⟨fun _ _ => by kernel_rfl⟩
instance en_58 : Enters Tryz.prog 58 := ⟨fun _ _ => by kernel_rfl⟩
instance en_59 : Enters Tryz.prog 59 := ⟨fun _ _ => by kernel_rfl⟩
instance en_60 : Enters Tryz.prog 60 := ⟨fun _ _ => by kernel_rfl⟩
instance en_61 : Enters Tryz.prog 61 := ⟨fun _ _ => by kernel_rfl⟩
instance en_62 : Enters Tryz.prog 62 := ⟨fun _ _ => by kernel_rfl⟩
instance en_63 : Enters Tryz.prog 63 := ⟨fun _ _ => by kernel_rfl⟩
instance en_64 : Enters Tryz.prog 64 := ⟨fun _ _ => by kernel_rfl⟩
instance en_65 : Enters Tryz.prog 65 := ⟨fun _ _ => by kernel_rfl⟩
instance en_66 : Enters Tryz.prog 66 := ⟨fun _ _ => by kernel_rfl⟩
instance en_67 : Enters Tryz.prog 67 := ⟨fun _ _ => by kernel_rfl⟩
instance en_68 : Enters Tryz.prog 68 := ⟨fun _ _ => by kernel_rfl⟩
instance en_69 : Enters Tryz.prog 69 := ⟨fun _ _ => by kernel_rfl⟩
instance en_70 : Enters Tryz.prog 70 := ⟨fun _ _ => by kernel_rfl⟩
instance en_71 : Enters Tryz.prog 71 := ⟨fun _ _ => by kernel_rfl⟩
instance en_74 : Enters Tryz.prog 74 := ⟨fun _ _ => by kernel_rfl⟩
instance en_76 : Enters Tryz.prog 76 := ⟨fun _ _ => by kernel_rfl⟩
instance en_78 : Enters Tryz.prog 78 := ⟨fun _ _ => by kernel_rfl⟩
instance en_80 : Enters Tryz.prog 80 := ⟨fun _ _ => by kernel_rfl⟩
instance en_81 : Enters Tryz.prog 81 := ⟨fun _ _ => by kernel_rfl⟩
instance en_82 : Enters Tryz.prog 82 := ⟨fun _ _ => by kernel_rfl⟩
instance en_83 : Enters Tryz.prog 83 := ⟨fun _ _ => by kernel_rfl⟩
instance en_84 : Enters Tryz.prog 84 := ⟨fun _ _ => by kernel_rfl⟩
instance en_85 : Enters Tryz.prog 85 := ⟨fun _ _ => by kernel_rfl⟩
instance en_86 : Enters Tryz.prog 86 := ⟨fun _ _ => by kernel_rfl⟩
instance en_87 : Enters Tryz.prog 87 := ⟨fun _ _ => by kernel_rfl⟩
instance en_88 : Enters Tryz.prog 88 := ⟨fun _ _ => by kernel_rfl⟩
instance en_89 : Enters Tryz.prog 89 := ⟨fun _ _ => by kernel_rfl⟩
instance en_90 : Enters Tryz.prog 90 := ⟨fun _ _ => by kernel_rfl⟩
instance en_91 : Enters Tryz.prog 91 := ⟨fun _ _ => by kernel_rfl⟩
instance en_92 : Enters Tryz.prog 92 := ⟨fun _ _ => by kernel_rfl⟩
instance en_93 : Enters Tryz.prog 93 := ⟨fun _ _ => by kernel_rfl⟩
instance en_94 : Enters Tryz.prog 94 := ⟨fun _ _ => by kernel_rfl⟩
instance en_95 : Enters Tryz.prog 95 := ⟨fun _ _ => by kernel_rfl⟩
instance en_96 : Enters Tryz.prog 96 := ⟨fun _ _ => by kernel_rfl⟩
instance en_97 : Enters Tryz.prog 97 := ⟨fun _ _ => by kernel_rfl⟩
instance en_98 : Enters Tryz.prog 98 := ⟨fun _ _ => by kernel_rfl⟩
instance en_99 : Enters Tryz.prog 99 := ⟨fun _ _ => by kernel_rfl⟩
instance en_100 : Enters Tryz.prog 100 := ⟨fun _ _ => by kernel_rfl⟩
instance en_101 : Enters Tryz.prog 101 := ⟨fun _ _ => by kernel_rfl⟩
instance en_102 : Enters Tryz.prog 102 := ⟨fun _ _ => by kernel_rfl⟩
instance en_103 : Enters Tryz.prog 103 := ⟨fun _ _ => by kernel_rfl⟩
instance en_106 : Enters Tryz.prog 106 := ⟨fun _ _ => by kernel_rfl⟩
instance en_107 : Enters Tryz.prog 107 := ⟨fun _ _ => by kernel_rfl⟩
instance en_108 : Enters Tryz.prog 108 := ⟨fun _ _ => by kernel_rfl⟩
instance en_109 : Enters Tryz.prog 109 := ⟨fun _ _ => by kernel_rfl⟩
instance en_110 : Enters Tryz.prog 110 := ⟨fun _ _ => by kernel_rfl⟩
instance en_111 : Enters Tryz.prog 111 := ⟨fun _ _ => by kernel_rfl⟩
instance en_112 : Enters Tryz.prog 112 := ⟨fun _ _ => by kernel_rfl⟩
instance en_113 : Enters Tryz.prog 113 := ⟨fun _ _ => by kernel_rfl⟩
instance en_115 : Enters Tryz.prog 115 := ⟨fun _ _ => by kernel_rfl⟩
instance en_123 : Enters Tryz.prog 123 := ⟨fun _ _ => by kernel_rfl⟩
instance en_124 : Enters Tryz.prog 124 := ⟨fun _ _ => by kernel_rfl⟩
instance en_129 : Enters Tryz.prog 129 := ⟨fun _ _ => by kernel_rfl⟩
instance en_130 : Enters Tryz.prog 130 := ⟨fun _ _ => by kernel_rfl⟩
instance en_131 : Enters Tryz.prog 131 := ⟨fun _ _ => by kernel_rfl⟩
instance en_132 : Enters Tryz.prog 132 := ⟨fun _ _ => by kernel_rfl⟩
instance en_133 : Enters Tryz.prog 133 := ⟨fun _ _ => by kernel_rfl⟩
instance en_134 : Enters Tryz.prog 134 := ⟨fun _ _ => by kernel_rfl⟩
instance en_135 : Enters Tryz.prog 135 := ⟨fun _ _ => by kernel_rfl⟩
instance en_136 : Enters Tryz.prog 136 := ⟨fun _ _ => by kernel_rfl⟩
instance en_137 : Enters Tryz.prog 137 := ⟨fun _ _ => by kernel_rfl⟩
instance en_138 : Enters Tryz.prog 138 := ⟨fun _ _ => by kernel_rfl⟩
instance en_139 : Enters Tryz.prog 139 := ⟨fun _ _ => by kernel_rfl⟩
instance en_140 : Enters Tryz.prog 140 := ⟨fun _ _ => by kernel_rfl⟩
instance en_141 : Enters Tryz.prog 141 := ⟨fun _ _ => by kernel_rfl⟩
instance en_142 : Enters Tryz.prog 142 := ⟨fun _ _ => by kernel_rfl⟩
instance en_143 : Enters Tryz.prog 143 := ⟨fun _ _ => by kernel_rfl⟩
instance en_144 : Enters Tryz.prog 144 := ⟨fun _ _ => by kernel_rfl⟩
instance en_145 : Enters Tryz.prog 145 := ⟨fun _ _ => by kernel_rfl⟩
instance en_146 : Enters Tryz.prog 146 := ⟨fun _ _ => by kernel_rfl⟩
instance en_147 : Enters Tryz.prog 147 := ⟨fun _ _ => by kernel_rfl⟩
instance en_152 : Enters Tryz.prog 152 := ⟨fun _ _ => by kernel_rfl⟩
instance en_154 : Enters Tryz.prog 154 := ⟨fun _ _ => by kernel_rfl⟩
instance en_155 : Enters Tryz.prog 155 := ⟨fun _ _ => by kernel_rfl⟩
instance en_156 : Enters Tryz.prog 156 := ⟨fun _ _ => by kernel_rfl⟩
instance en_157 : Enters Tryz.prog 157 := ⟨fun _ _ => by kernel_rfl⟩
instance en_158 : Enters Tryz.prog 158 := ⟨fun _ _ => by kernel_rfl⟩
instance en_159 : Enters Tryz.prog 159 := ⟨fun _ _ => by kernel_rfl⟩
instance en_160 : Enters Tryz.prog 160 := ⟨fun _ _ => by kernel_rfl⟩
instance en_162 : Enters Tryz.prog 162 := ⟨fun _ _ => by kernel_rfl⟩
instance en_163 : Enters Tryz.prog 163 := ⟨fun _ _ => by kernel_rfl⟩
instance en_177 : Enters Tryz.prog 177 := ⟨fun _ _ => by kernel_rfl⟩
instance en_178 : Enters Tryz.prog 178 := ⟨fun _ _ => by kernel_rfl⟩
instance en_179 : Enters Tryz.prog 179 := ⟨fun _ _ => by kernel_rfl⟩
instance en_181 : Enters Tryz.prog 181 := ⟨fun _ _ => by kernel_rfl⟩
instance en_182 : Enters Tryz.prog 182 := ⟨fun _ _ => by kernel_rfl⟩
instance en_184 : Enters Tryz.prog 184 := ⟨fun _ _ => by kernel_rfl⟩
instance en_185 : Enters Tryz.prog 185 := ⟨fun _ _ => by kernel_rfl⟩
instance en_189 : Enters Tryz.prog 189 := ⟨fun _ _ => by kernel_rfl⟩
instance en_190 : Enters Tryz.prog 190 := ⟨fun _ _ => by kernel_rfl⟩
instance en_191 : Enters Tryz.prog 191 := ⟨fun _ _ => by kernel_rfl⟩
instance en_192 : Enters Tryz.prog 192 := ⟨fun _ _ => by kernel_rfl⟩
instance en_193 : Enters Tryz.prog 193 := ⟨fun _ _ => by kernel_rfl⟩
instance en_194 : Enters Tryz.prog 194 := ⟨fun _ _ => by kernel_rfl⟩
instance en_201 : Enters Tryz.prog 201 := ⟨fun _ _ => by kernel_rfl⟩
instance en_202 : Enters Tryz.prog 202 := ⟨fun _ _ => by kernel_rfl⟩
instance en_203 : Enters Tryz.prog 203 := ⟨fun _ _ => by kernel_rfl⟩
instance en_204 : Enters Tryz.prog 204 := ⟨fun _ _ => by kernel_rfl⟩
instance en_218 : Enters Tryz.prog 218 := ⟨fun _ _ => by kernel_rfl⟩
instance en_225 : Enters Tryz.prog 225 := ⟨fun _ _ => by kernel_rfl⟩
instance en_226 : Enters Tryz.prog 226 := ⟨fun _ _ => by kernel_rfl⟩
instance en_227 : Enters Tryz.prog 227 := ⟨fun _ _ => by kernel_rfl⟩
instance en_228 : Enters Tryz.prog 228 := ⟨fun _ _ => by kernel_rfl⟩
instance en_229 : Enters Tryz.prog 229 := ⟨fun _ _ => by kernel_rfl⟩
instance en_238 : Enters Tryz.prog 238 := ⟨fun _ _ => by kernel_rfl⟩
instance en_244 : Enters Tryz.prog 244 := ⟨fun _ _ => by kernel_rfl⟩
instance en_245 : Enters Tryz.prog 245 := ⟨fun _ _ => by kernel_rfl⟩
end Go.Proofs.YtmkaahkbhdlniaaGreatDoor
namespace Go.Mw
open Go.RowKit

section
variable {P : Program} {r : Option Nat} {n : Nat} {ops : Array Oper} {Q : Post} {rest : List Oper} {σ : St} {w w₀ : World} {S : Nat → Prop} {rs : List HP} {ty : TypeId} {pos : String} {after : Array Edge}
def YieldB (P : Program) (l : Nat) (xs : List Value) (w : World) (R : Bool → World → Prop) : Prop :=
 ∃ fn tmps assign body, (Instr.yield l xs.toArray).run P w = .ok (.round l fn tmps assign body) w ∧ RoundIn (fen none) 0 P l fn tmps assign body w (Ret fun v w' => ∃ b, v = .bool b ∧ R b w')
theorem FL_yieldB {d l : Nat} {y : Operand} {xs : List Operand} {ats : Array TypeId} {vals : List Value} {R : Bool → World → Prop} (hy : evF σ y = .func (.yield l) #[] #[]) (hc : YieldB P l vals w R)
    (hv : xs.map (evF σ) = vals) (hd : Nat.blt d n = true) (h : ∀ b w', R b w' → FL P r n ops Q rest (upd σ d (.bool b)) w') :
    FL P r n ops Q ({ dst := some d, op := .call { callee := .value y, args := xs.toArray, argTypes := ats }, type := ty, pos := pos, after := after, guard := none } :: rest) σ w := fun a ha =>
  wpListIn_plain rfl fun K hK => by
    obtain ⟨fn, tmps, assign, body, hrun, hround⟩ := hc
    refine ⟨fun _ _ => trivial, ?_⟩
    rw [Oper.semAt_eq _ _ _ (fun _ h => by cases h), ha.eval]
    have e : (execOp (evF σ) { dst := some d, op := .call { callee := .value y, args := xs.toArray, argTypes := ats }, type := ty, pos := pos, after := after, guard := none }).run P w = .ok (.round l fn tmps assign body) w := by
      simp [execOp, resolve, hy, Deferred.ofValue, invoke, hv, hrun]
    rw [e, Oper.uponIn_round]
    refine ⟨(fun h => by cases h), RoundIn.mono (F := fen r) hround fun en w'' hr => ?_⟩
    cases en with
    | returned v => obtain ⟨b, rfl, hR⟩ := hr; exact hK _ _ (h b w'' hR _ (ha.put (Nat.le_of_ble_eq_true hd) _))
    | _ => exact hr.elim

def Qleave (K Kr : World → Prop) : Post := fun e _ w => match e with
 | .normal => K w
 | .ret => Kr w
 | _ => False
theorem Qleave_normal {K Kr : World → Prop} (h : K w) : Qleave K Kr .normal σ w := h
theorem Qleave_ret {K Kr : World → Prop} (h : Kr w) : Qleave K Kr .ret σ w := h

end
end Go.Mw
namespace Go.Mw
open Go.RowKit

def Turn (F : Nat → Prop) (q : HP) (w w' : World) : Prop := Kept F w w' ∧ ∃ F', q.ok F' w' ∧ ∀ b, F' b → F b ∨ w.heap.size ≤ b
section
variable {P : Program} {r : Option Nat} {n : Nat} {ops : Array Oper} {Q : Post} {rest : List Oper} {σ : St} {w w' w₀ : World} {S F : Nat → Prop} {rs : List HP} {p q : HP} {put : HP → List HP} {op : Op} {ty : TypeId} {pos : String} {after : Array Edge}
theorem starL_one {F : Nat → Prop} : (starL [p]).ok F w ↔ p.ok F w := by
 constructor
 ·rintro ⟨F1, F2, hF, hd, hp, ⟨_, h2⟩⟩
  have : F = F1 := funext fun b => propext ((hF b).trans ⟨fun h => h.elim id fun h => (h2 b h).elim, .inl⟩)
  rw [this]; exact hp
 intro h
 exact ⟨F, fun _ => False, fun b => by simp, fun _ _ h => h, h, trivial, fun _ h => h⟩
theorem Sep.start1 (h : p.ok F w) : Sep w F [p] w := Sep.start [p] (starL_one.2 h)
theorem Sep.turn (h : Sep w₀ F [p] w) : Turn F p w₀ w := by
 obtain ⟨h1, F', hF, hs⟩ := h
 exact ⟨h1, F', starL_one.1 hF, hs⟩
theorem Turn.refl (h : p.ok F w) : Turn F p w w := ⟨Kept.refl _ _, F, h, fun _ hb => .inl hb⟩
theorem Sep.back1 {a p : HP} {l : List HP} (h : Sep w₀ S (p :: a :: l) w) : Sep w₀ S (a :: p :: l) w := h.front1
theorem Sep.back2 {a b p : HP} {l : List HP} (h : Sep w₀ S (p :: a :: b :: l) w) : Sep w₀ S (a :: b :: p :: l) w := h.front2.front2
theorem Sep.first (h : Sep w₀ S (p :: rs) w) : Sep w₀ S [p] w := by
 induction rs with
 | nil => exact h
 | cons a rs ih => exact ih (h.front1.drop0)
theorem Sep.firsts {l rs : List HP} (h : Sep w₀ S (l ++ rs) w) : Sep w₀ S l w := by
 have := (Sep.bundle h).first.parts
 rwa [List.append_nil] at this
theorem FL_callS {d : Nat} {f : FuncId} {xs : List Operand} {ats : Array TypeId} {vals : List Value} {v : Value} [he : Enters P f]
    (hc : Rets P f vals w fun v' w' => v' = v ∧ w = w') (hv : xs.map (evF σ) = vals := by exact rfl) (hd : Nat.blt d n = true := by exact rfl)
    (h : FL P r n ops Q rest (upd σ d v) w) :
    FL P r n ops Q ({ dst := some d, op := .call { callee := .value (.func f), args := xs.toArray, argTypes := ats }, type := ty, pos := pos, after := after, guard := none } :: rest) σ w :=
  FL_call hc hv hd fun v' w' ⟨hx, hw⟩ => by subst hx; subst hw; exact h
theorem FL_loadB {d b o : Nat} {x : Operand} {T : TypeId} [OneCell P T] {cs : List Value} {E : TypeId} {v : Value} (hb : w.heap[b]? = some (.cells cs.toArray E (0, 0))) (hx : evF σ x = .pointer (some ⟨b, o, none⟩) := by exact rfl)
    (hv : cs[o]? = some v := by exact rfl) (hd : Nat.blt d n = true := by exact rfl) (h : FL P r n ops Q rest (upd σ d v) w) :
    FL P r n ops Q ({ dst := some d, op := .load T x, type := ty, pos := pos, after := after, guard := none } :: rest) σ w := FL_val (Gives.load1 hx hb hv) hd h
theorem FL_callN {d : Nat} {f : FuncId} {xs : List Operand} {ats : Array TypeId} {vals : List Value} {α : Type} {val : α → Value} {φ : α → Prop} {q : α → HP} [he : Enters P f] (H : Sep w₀ S rs w)
    (hc : Rets P f vals w fun v w' => ∃ x, v = val x ∧ φ x ∧ Turn noB (q x) w w') (hv : xs.map (evF σ) = vals := by exact rfl) (hd : Nat.blt d n = true := by exact rfl)
    (h : ∀ x w', φ x → Sep w₀ S (q x :: rs) w' → Kept noB w w' → FL P r n ops Q rest (upd σ d (val x)) w') :
    FL P r n ops Q ({ dst := some d, op := .call { callee := .value (.func f), args := xs.toArray, argTypes := ats }, type := ty, pos := pos, after := after, guard := none } :: rest) σ w := by
  refine FL_call hc hv hd fun v w' ⟨x, hx, hφ, hk, F', hq, hs⟩ => ?_
  subst hx
  exact h x w' hφ (H.new hk hq fun b hb => (hs b hb).resolve_left id) hk
end
end Go.Mw
