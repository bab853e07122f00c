/-
 Made by program: what the translation's tables say of the types and functions that its code uses.
-/
import Derived.Test.YtolaedhdjcnijaaGreatDoorProg
import Derived.Test.YtolaedhdjcnijaaGreatDoorKt4
import Derived.KernelRfl
set_option linter.unusedVariables false
set_option linter.unusedSimpArgs false
namespace Go.Proofs.YtolaedhdjcnijaaGreatDoor
open Go Go.Mw
instance oc_1 : OneCell Tryz.prog 1 := ⟨fun _ => by kernel_rfl, fun _ => by kernel_rfl⟩
instance ze_1 : Zero Tryz.prog 1 (Value.nilFunc) := ⟨fun _ => by kernel_rfl⟩
instance ce_1 : Cells Tryz.prog 1 1 8 := ⟨by kernel_rfl⟩
instance oc_2 : OneCell Tryz.prog 2 := ⟨fun _ => by kernel_rfl, fun _ => by kernel_rfl⟩
instance ze_2 : Zero Tryz.prog 2 (Value.int .i64 0) := ⟨fun _ => by kernel_rfl⟩
instance ce_2 : Cells Tryz.prog 2 1 8 := ⟨by kernel_rfl⟩
instance in_2 : IsInt Tryz.prog 2 .i64 := ⟨by kernel_rfl⟩
instance oc_3 : OneCell Tryz.prog 3 := ⟨fun _ => by kernel_rfl, fun _ => by kernel_rfl⟩
instance ze_3 : Zero Tryz.prog 3 (Value.int .i64 0) := ⟨fun _ => by kernel_rfl⟩
instance ce_3 : Cells Tryz.prog 3 1 8 := ⟨by kernel_rfl⟩
instance in_3 : IsInt Tryz.prog 3 .i64 := ⟨by kernel_rfl⟩
instance oc_4 : OneCell Tryz.prog 4 := ⟨fun _ => by kernel_rfl, fun _ => by kernel_rfl⟩
instance ze_4 : Zero Tryz.prog 4 (Value.bool false) := ⟨fun _ => by kernel_rfl⟩
instance ce_4 : Cells Tryz.prog 4 1 1 := ⟨by kernel_rfl⟩
instance bo_4 : IsBool Tryz.prog 4 := ⟨by kernel_rfl⟩
instance oc_5 : OneCell Tryz.prog 5 := ⟨fun _ => by kernel_rfl, fun _ => by kernel_rfl⟩
instance ze_5 : Zero Tryz.prog 5 (Value.int .u8 0) := ⟨fun _ => by kernel_rfl⟩
instance ce_5 : Cells Tryz.prog 5 1 1 := ⟨by kernel_rfl⟩
instance in_5 : IsInt Tryz.prog 5 .u8 := ⟨by kernel_rfl⟩
instance oc_6 : OneCell Tryz.prog 6 := ⟨fun _ => by kernel_rfl, fun _ => by kernel_rfl⟩
instance ze_6 : Zero Tryz.prog 6 (Value.int .u8 0) := ⟨fun _ => by kernel_rfl⟩
instance ce_6 : Cells Tryz.prog 6 1 1 := ⟨by kernel_rfl⟩
instance in_6 : IsInt Tryz.prog 6 .u8 := ⟨by kernel_rfl⟩
instance oc_9 : OneCell Tryz.prog 9 := ⟨fun _ => by kernel_rfl, fun _ => by kernel_rfl⟩
instance ze_9 : Zero Tryz.prog 9 (Value.string .empty) := ⟨fun _ => by kernel_rfl⟩
instance ce_9 : Cells Tryz.prog 9 1 16 := ⟨by kernel_rfl⟩
instance st_9 : IsStr Tryz.prog 9 := ⟨by kernel_rfl⟩
instance oc_12 : OneCell Tryz.prog 12 := ⟨fun _ => by kernel_rfl, fun _ => by kernel_rfl⟩
instance ze_12 : Zero Tryz.prog 12 (Value.int .u64 0) := ⟨fun _ => by kernel_rfl⟩
instance ce_12 : Cells Tryz.prog 12 1 8 := ⟨by kernel_rfl⟩
instance in_12 : IsInt Tryz.prog 12 .u64 := ⟨by kernel_rfl⟩
instance oc_20 : OneCell Tryz.prog 20 := ⟨fun _ => by kernel_rfl, fun _ => by kernel_rfl⟩
instance ze_20 : Zero Tryz.prog 20 (Value.nilIface) := ⟨fun _ => by kernel_rfl⟩
instance ce_20 : Cells Tryz.prog 20 1 16 := ⟨by kernel_rfl⟩
instance oc_21 : OneCell Tryz.prog 21 := ⟨fun _ => by kernel_rfl, fun _ => by kernel_rfl⟩
instance ze_21 : Zero Tryz.prog 21 (Value.int .i32 0) := ⟨fun _ => by kernel_rfl⟩
instance ce_21 : Cells Tryz.prog 21 1 4 := ⟨by kernel_rfl⟩
instance in_21 : IsInt Tryz.prog 21 .i32 := ⟨by kernel_rfl⟩
instance oc_22 : OneCell Tryz.prog 22 := ⟨fun _ => by kernel_rfl, fun _ => by kernel_rfl⟩
instance ze_22 : Zero Tryz.prog 22 (Value.slice none 0 0) := ⟨fun _ => by kernel_rfl⟩
instance ce_22 : Cells Tryz.prog 22 1 24 := ⟨by kernel_rfl⟩
instance sl_22 : IsSlice Tryz.prog 22 60 := ⟨by kernel_rfl⟩
instance oc_23 : OneCell Tryz.prog 23 := ⟨fun _ => by kernel_rfl, fun _ => by kernel_rfl⟩
instance ze_23 : Zero Tryz.prog 23 (Value.slice none 0 0) := ⟨fun _ => by kernel_rfl⟩
instance ce_23 : Cells Tryz.prog 23 1 24 := ⟨by kernel_rfl⟩
instance sl_23 : IsSlice Tryz.prog 23 53 := ⟨by kernel_rfl⟩
instance ag_25 : Agg Tryz.prog 25 3 := ⟨fun _ => by kernel_rfl, fun _ => by kernel_rfl⟩
instance ze_25 : Zero Tryz.prog 25 (Value.agg #[Value.slice none 0 0, Value.slice none 0 0, Value.int .i64 0]) := ⟨fun _ => by kernel_rfl⟩
instance ce_25 : Cells Tryz.prog 25 3 56 := ⟨by kernel_rfl⟩
instance oc_27 : OneCell Tryz.prog 27 := ⟨fun _ => by kernel_rfl, fun _ => by kernel_rfl⟩
instance ze_27 : Zero Tryz.prog 27 (Value.int .i64 0) := ⟨fun _ => by kernel_rfl⟩
instance ce_27 : Cells Tryz.prog 27 1 8 := ⟨by kernel_rfl⟩
instance in_27 : IsInt Tryz.prog 27 .i64 := ⟨by kernel_rfl⟩
instance oc_35 : OneCell Tryz.prog 35 := ⟨fun _ => by kernel_rfl, fun _ => by kernel_rfl⟩
instance ze_35 : Zero Tryz.prog 35 (Value.slice none 0 0) := ⟨fun _ => by kernel_rfl⟩
instance ce_35 : Cells Tryz.prog 35 1 24 := ⟨by kernel_rfl⟩
instance sl_35 : IsSlice Tryz.prog 35 95 := ⟨by kernel_rfl⟩
instance oc_39 : OneCell Tryz.prog 39 := ⟨fun _ => by kernel_rfl, fun _ => by kernel_rfl⟩
instance ze_39 : Zero Tryz.prog 39 (Value.nilFunc) := ⟨fun _ => by kernel_rfl⟩
instance ce_39 : Cells Tryz.prog 39 1 8 := ⟨by kernel_rfl⟩
instance oc_40 : OneCell Tryz.prog 40 := ⟨fun _ => by kernel_rfl, fun _ => by kernel_rfl⟩
instance ze_40 : Zero Tryz.prog 40 (Value.slice none 0 0) := ⟨fun _ => by kernel_rfl⟩
instance ce_40 : Cells Tryz.prog 40 1 24 := ⟨by kernel_rfl⟩
instance sl_40 : IsSlice Tryz.prog 40 49 := ⟨by kernel_rfl⟩
instance ag_45 : Agg Tryz.prog 45 2 := ⟨fun _ => by kernel_rfl, fun _ => by kernel_rfl⟩
instance ze_45 : Zero Tryz.prog 45 (Value.agg #[Value.int .i64 0, Value.bool false]) := ⟨fun _ => by kernel_rfl⟩
instance ce_45 : Cells Tryz.prog 45 2 16 := ⟨by kernel_rfl⟩
instance ag_47 : Agg Tryz.prog 47 3 := ⟨fun _ => by kernel_rfl, fun _ => by kernel_rfl⟩
instance ze_47 : Zero Tryz.prog 47 (Value.agg #[Value.bool false, Value.int .i64 0, Value.string .empty]) := ⟨fun _ => by kernel_rfl⟩
instance ce_47 : Cells Tryz.prog 47 3 32 := ⟨by kernel_rfl⟩
instance ag_49 : Agg Tryz.prog 49 7 := ⟨fun _ => by kernel_rfl, fun _ => by kernel_rfl⟩
instance ze_49 : Zero Tryz.prog 49 (Value.agg #[Value.int .i64 0, Value.string .empty, Value.int .i64 0, Value.bool false, Value.bool false, Value.int .i64 0, Value.string .empty]) := ⟨fun _ => by kernel_rfl⟩
instance ce_49 : Cells Tryz.prog 49 7 72 := ⟨by kernel_rfl⟩
instance ag_53 : Agg Tryz.prog 53 2 := ⟨fun _ => by kernel_rfl, fun _ => by kernel_rfl⟩
instance ze_53 : Zero Tryz.prog 53 (Value.agg #[Value.string .empty, Value.slice none 0 0]) := ⟨fun _ => by kernel_rfl⟩
instance ce_53 : Cells Tryz.prog 53 2 40 := ⟨by kernel_rfl⟩
instance oc_56 : OneCell Tryz.prog 56 := ⟨fun _ => by kernel_rfl, fun _ => by kernel_rfl⟩
instance ze_56 : Zero Tryz.prog 56 (Value.slice none 0 0) := ⟨fun _ => by kernel_rfl⟩
instance ce_56 : Cells Tryz.prog 56 1 24 := ⟨by kernel_rfl⟩
instance sl_56 : IsSlice Tryz.prog 56 9 := ⟨by kernel_rfl⟩
instance oc_57 : OneCell Tryz.prog 57 := ⟨fun _ => by kernel_rfl, fun _ => by kernel_rfl⟩
instance ze_57 : Zero Tryz.prog 57 (Value.slice none 0 0) := ⟨fun _ => by kernel_rfl⟩
instance ce_57 : Cells Tryz.prog 57 1 24 := ⟨by kernel_rfl⟩
instance sl_57 : IsSlice Tryz.prog 57 3 := ⟨by kernel_rfl⟩
instance ag_60 : Agg Tryz.prog 60 3 := ⟨fun _ => by kernel_rfl, fun _ => by kernel_rfl⟩
instance ze_60 : Zero Tryz.prog 60 (Value.agg #[Value.int .i64 0, Value.int .i64 0, Value.string .empty]) := ⟨fun _ => by kernel_rfl⟩
instance ce_60 : Cells Tryz.prog 60 3 32 := ⟨by kernel_rfl⟩
instance ag_74 : Agg Tryz.prog 74 4 := ⟨fun _ => by kernel_rfl, fun _ => by kernel_rfl⟩
instance ze_74 : Zero Tryz.prog 74 (Value.agg #[Value.slice none 0 0, Value.slice none 0 0, Value.int .i64 0, Value.int .i64 0]) := ⟨fun _ => by kernel_rfl⟩
instance ce_74 : Cells Tryz.prog 74 4 64 := ⟨by kernel_rfl⟩
instance oc_75 : OneCell Tryz.prog 75 := ⟨fun _ => by kernel_rfl, fun _ => by kernel_rfl⟩
instance ze_75 : Zero Tryz.prog 75 (Value.nilFunc) := ⟨fun _ => by kernel_rfl⟩
instance ce_75 : Cells Tryz.prog 75 1 8 := ⟨by kernel_rfl⟩
instance oc_76 : OneCell Tryz.prog 76 := ⟨fun _ => by kernel_rfl, fun _ => by kernel_rfl⟩
instance ze_76 : Zero Tryz.prog 76 (Value.nilFunc) := ⟨fun _ => by kernel_rfl⟩
instance ce_76 : Cells Tryz.prog 76 1 8 := ⟨by kernel_rfl⟩
instance ag_95 : Agg Tryz.prog 95 2 := ⟨fun _ => by kernel_rfl, fun _ => by kernel_rfl⟩
instance ze_95 : Zero Tryz.prog 95 (Value.agg #[Value.int .i64 0, Value.int .i64 0]) := ⟨fun _ => by kernel_rfl⟩
instance ce_95 : Cells Tryz.prog 95 2 16 := ⟨by kernel_rfl⟩
instance ar_95 : IsArray Tryz.prog 95 2 3 := ⟨by kernel_rfl⟩
instance oc_96 : OneCell Tryz.prog 96 := ⟨fun _ => by kernel_rfl, fun _ => by kernel_rfl⟩
instance ze_96 : Zero Tryz.prog 96 (Value.nilFunc) := ⟨fun _ => by kernel_rfl⟩
instance ce_96 : Cells Tryz.prog 96 1 8 := ⟨by kernel_rfl⟩
instance oc_100 : OneCell Tryz.prog 100 := ⟨fun _ => by kernel_rfl, fun _ => by kernel_rfl⟩
instance ze_100 : Zero Tryz.prog 100 (Value.nilFunc) := ⟨fun _ => by kernel_rfl⟩
instance ce_100 : Cells Tryz.prog 100 1 8 := ⟨by kernel_rfl⟩
instance oc_101 : OneCell Tryz.prog 101 := ⟨fun _ => by kernel_rfl, fun _ => by kernel_rfl⟩
instance ze_101 : Zero Tryz.prog 101 (Value.slice none 0 0) := ⟨fun _ => by kernel_rfl⟩
instance ce_101 : Cells Tryz.prog 101 1 24 := ⟨by kernel_rfl⟩
instance sl_101 : IsSlice Tryz.prog 101 45 := ⟨by kernel_rfl⟩
instance ag_103 : Agg Tryz.prog 103 1 := ⟨fun _ => by kernel_rfl, fun _ => by kernel_rfl⟩
instance ze_103 : Zero Tryz.prog 103 (Value.agg #[Value.slice none 0 0]) := ⟨fun _ => by kernel_rfl⟩
instance ce_103 : Cells Tryz.prog 103 1 24 := ⟨by kernel_rfl⟩
instance oc_112 : OneCell Tryz.prog 112 := ⟨fun _ => by kernel_rfl, fun _ => by kernel_rfl⟩
instance ze_112 : Zero Tryz.prog 112 (Value.nilFunc) := ⟨fun _ => by kernel_rfl⟩
instance ce_112 : Cells Tryz.prog 112 1 8 := ⟨by kernel_rfl⟩
instance oc_117 : OneCell Tryz.prog 117 := ⟨fun _ => by kernel_rfl, fun _ => by kernel_rfl⟩
instance ze_117 : Zero Tryz.prog 117 (Value.int .u64 0) := ⟨fun _ => by kernel_rfl⟩
instance ce_117 : Cells Tryz.prog 117 1 8 := ⟨by kernel_rfl⟩
instance in_117 : IsInt Tryz.prog 117 .u64 := ⟨by kernel_rfl⟩
instance oc_121 : OneCell Tryz.prog 121 := ⟨fun _ => by kernel_rfl, fun _ => by kernel_rfl⟩
instance ze_121 : Zero Tryz.prog 121 (Value.pointer none) := ⟨fun _ => by kernel_rfl⟩
instance ce_121 : Cells Tryz.prog 121 1 8 := ⟨by kernel_rfl⟩
instance pt_121 : IsPtr Tryz.prog 121 := ⟨_, (by kernel_rfl : Program.underlying _ _ = some (.pointer 124))⟩
instance oc_122 : OneCell Tryz.prog 122 := ⟨fun _ => by kernel_rfl, fun _ => by kernel_rfl⟩
instance ze_122 : Zero Tryz.prog 122 (Value.slice none 0 0) := ⟨fun _ => by kernel_rfl⟩
instance ce_122 : Cells Tryz.prog 122 1 24 := ⟨by kernel_rfl⟩
instance sl_122 : IsSlice Tryz.prog 122 5 := ⟨by kernel_rfl⟩
instance ag_124 : Agg Tryz.prog 124 2 := ⟨fun _ => by kernel_rfl, fun _ => by kernel_rfl⟩
instance ze_124 : Zero Tryz.prog 124 (Value.agg #[Value.pointer none, Value.slice none 0 0]) := ⟨fun _ => by kernel_rfl⟩
instance ce_124 : Cells Tryz.prog 124 2 32 := ⟨by kernel_rfl⟩
instance oc_127 : OneCell Tryz.prog 127 := ⟨fun _ => by kernel_rfl, fun _ => by kernel_rfl⟩
instance ze_127 : Zero Tryz.prog 127 (Value.nilIface) := ⟨fun _ => by kernel_rfl⟩
instance ce_127 : Cells Tryz.prog 127 1 16 := ⟨by kernel_rfl⟩
instance oc_132 : OneCell Tryz.prog 132 := ⟨fun _ => by kernel_rfl, fun _ => by kernel_rfl⟩
instance ze_132 : Zero Tryz.prog 132 (Value.map none) := ⟨fun _ => by kernel_rfl⟩
instance ce_132 : Cells Tryz.prog 132 1 8 := ⟨by kernel_rfl⟩
instance ma_132 : IsMap Tryz.prog 132 9 3 := ⟨by kernel_rfl⟩
instance oc_134 : OneCell Tryz.prog 134 := ⟨fun _ => by kernel_rfl, fun _ => by kernel_rfl⟩
instance ze_134 : Zero Tryz.prog 134 (Value.pointer none) := ⟨fun _ => by kernel_rfl⟩
instance ce_134 : Cells Tryz.prog 134 1 8 := ⟨by kernel_rfl⟩
instance pt_134 : IsPtr Tryz.prog 134 := ⟨_, (by kernel_rfl : Program.underlying _ _ = some (.pointer 74))⟩
instance oc_143 : OneCell Tryz.prog 143 := ⟨fun _ => by kernel_rfl, fun _ => by kernel_rfl⟩
instance ze_143 : Zero Tryz.prog 143 (Value.pointer none) := ⟨fun _ => by kernel_rfl⟩
instance ce_143 : Cells Tryz.prog 143 1 8 := ⟨by kernel_rfl⟩
instance pt_143 : IsPtr Tryz.prog 143 := ⟨_, (by kernel_rfl : Program.underlying _ _ = some (.pointer 103))⟩
instance ag_145 : Agg Tryz.prog 145 6 := ⟨fun _ => by kernel_rfl, fun _ => by kernel_rfl⟩
instance ze_145 : Zero Tryz.prog 145 (Value.agg #[Value.int .i64 0, Value.int .i64 0, Value.int .i64 0, Value.int .i64 0, Value.int .i64 0, Value.int .i64 0]) := ⟨fun _ => by kernel_rfl⟩
instance ce_145 : Cells Tryz.prog 145 6 48 := ⟨by kernel_rfl⟩
instance ar_145 : IsArray Tryz.prog 145 6 3 := ⟨by kernel_rfl⟩
instance oc_149 : OneCell Tryz.prog 149 := ⟨fun _ => by kernel_rfl, fun _ => by kernel_rfl⟩
instance ze_149 : Zero Tryz.prog 149 (Value.nilFunc) := ⟨fun _ => by kernel_rfl⟩
instance ce_149 : Cells Tryz.prog 149 1 8 := ⟨by kernel_rfl⟩
instance oc_153 : OneCell Tryz.prog 153 := ⟨fun _ => by kernel_rfl, fun _ => by kernel_rfl⟩
instance ze_153 : Zero Tryz.prog 153 (Value.int .u32 0) := ⟨fun _ => by kernel_rfl⟩
instance ce_153 : Cells Tryz.prog 153 1 4 := ⟨by kernel_rfl⟩
instance in_153 : IsInt Tryz.prog 153 .u32 := ⟨by kernel_rfl⟩
instance oc_156 : OneCell Tryz.prog 156 := ⟨fun _ => by kernel_rfl, fun _ => by kernel_rfl⟩
instance ze_156 : Zero Tryz.prog 156 (Value.int .u64 0) := ⟨fun _ => by kernel_rfl⟩
instance ce_156 : Cells Tryz.prog 156 1 8 := ⟨by kernel_rfl⟩
instance in_156 : IsInt Tryz.prog 156 .u64 := ⟨by kernel_rfl⟩
instance oc_159 : OneCell Tryz.prog 159 := ⟨fun _ => by kernel_rfl, fun _ => by kernel_rfl⟩
instance ze_159 : Zero Tryz.prog 159 (Value.pointer none) := ⟨fun _ => by kernel_rfl⟩
instance ce_159 : Cells Tryz.prog 159 1 8 := ⟨by kernel_rfl⟩
instance pt_159 : IsPtr Tryz.prog 159 := ⟨_, (by kernel_rfl : Program.underlying _ _ = some (.pointer 5))⟩
instance oc_162 : OneCell Tryz.prog 162 := ⟨fun _ => by kernel_rfl, fun _ => by kernel_rfl⟩
instance ze_162 : Zero Tryz.prog 162 (Value.nilFunc) := ⟨fun _ => by kernel_rfl⟩
instance ce_162 : Cells Tryz.prog 162 1 8 := ⟨by kernel_rfl⟩
instance oc_180 : OneCell Tryz.prog 180 := ⟨fun _ => by kernel_rfl, fun _ => by kernel_rfl⟩
instance ze_180 : Zero Tryz.prog 180 (Value.nilFunc) := ⟨fun _ => by kernel_rfl⟩
instance ce_180 : Cells Tryz.prog 180 1 8 := ⟨by kernel_rfl⟩
instance oc_181 : OneCell Tryz.prog 181 := ⟨fun _ => by kernel_rfl, fun _ => by kernel_rfl⟩
instance ze_181 : Zero Tryz.prog 181 (Value.nilFunc) := ⟨fun _ => by kernel_rfl⟩
instance ce_181 : Cells Tryz.prog 181 1 8 := ⟨by kernel_rfl⟩
instance oc_182 : OneCell Tryz.prog 182 := ⟨fun _ => by kernel_rfl, fun _ => by kernel_rfl⟩
instance ze_182 : Zero Tryz.prog 182 (Value.nilFunc) := ⟨fun _ => by kernel_rfl⟩
instance ce_182 : Cells Tryz.prog 182 1 8 := ⟨by kernel_rfl⟩
instance ag_185 : Agg Tryz.prog 185 5 := ⟨fun _ => by kernel_rfl, fun _ => by kernel_rfl⟩
instance ze_185 : Zero Tryz.prog 185 (Value.agg #[Value.nilFunc, Value.nilFunc, Value.nilFunc, Value.nilFunc, Value.nilFunc]) := ⟨fun _ => by kernel_rfl⟩
instance ce_185 : Cells Tryz.prog 185 5 40 := ⟨by kernel_rfl⟩
instance oc_188 : OneCell Tryz.prog 188 := ⟨fun _ => by kernel_rfl, fun _ => by kernel_rfl⟩
instance ze_188 : Zero Tryz.prog 188 (Value.nilFunc) := ⟨fun _ => by kernel_rfl⟩
instance ce_188 : Cells Tryz.prog 188 1 8 := ⟨by kernel_rfl⟩
instance oc_192 : OneCell Tryz.prog 192 := ⟨fun _ => by kernel_rfl, fun _ => by kernel_rfl⟩
instance ze_192 : Zero Tryz.prog 192 (Value.int .i64 0) := ⟨fun _ => by kernel_rfl⟩
instance ce_192 : Cells Tryz.prog 192 1 8 := ⟨by kernel_rfl⟩
instance in_192 : IsInt Tryz.prog 192 .i64 := ⟨by kernel_rfl⟩
instance oc_201 : OneCell Tryz.prog 201 := ⟨fun _ => by kernel_rfl, fun _ => by kernel_rfl⟩
instance ze_201 : Zero Tryz.prog 201 (Value.pointer none) := ⟨fun _ => by kernel_rfl⟩
instance ce_201 : Cells Tryz.prog 201 1 8 := ⟨by kernel_rfl⟩
instance ag_206 : Agg Tryz.prog 206 256 := ⟨fun _ => by kernel_rfl, fun _ => by kernel_rfl⟩
instance ze_206 : Zero Tryz.prog 206 (Value.agg (List.replicate 256 (Value.bool false)).toArray) := ⟨fun _ => by kernel_rfl⟩
instance ce_206 : Cells Tryz.prog 206 256 256 := ⟨by kernel_rfl⟩
instance ar_206 : IsArray Tryz.prog 206 256 4 := ⟨by kernel_rfl⟩
instance oc_210 : OneCell Tryz.prog 210 := ⟨fun _ => by kernel_rfl, fun _ => by kernel_rfl⟩
instance ze_210 : Zero Tryz.prog 210 (Value.pointer none) := ⟨fun _ => by kernel_rfl⟩
instance ce_210 : Cells Tryz.prog 210 1 8 := ⟨by kernel_rfl⟩
instance pt_210 : IsPtr Tryz.prog 210 := ⟨_, (by kernel_rfl : Program.underlying _ _ = some (.pointer 206))⟩
instance oc_213 : OneCell Tryz.prog 213 := ⟨fun _ => by kernel_rfl, fun _ => by kernel_rfl⟩
instance ze_213 : Zero Tryz.prog 213 (Value.map none) := ⟨fun _ => by kernel_rfl⟩
instance ce_213 : Cells Tryz.prog 213 1 8 := ⟨by kernel_rfl⟩
instance ma_213 : IsMap Tryz.prog 213 21 5 := ⟨by kernel_rfl⟩
instance ag_217 : Agg Tryz.prog 217 24 := ⟨fun _ => by kernel_rfl, fun _ => by kernel_rfl⟩
instance ze_217 : Zero Tryz.prog 217 (Value.agg (List.replicate 24 (Value.int .u8 0)).toArray) := ⟨fun _ => by kernel_rfl⟩
instance ce_217 : Cells Tryz.prog 217 24 24 := ⟨by kernel_rfl⟩
instance ar_217 : IsArray Tryz.prog 217 24 5 := ⟨by kernel_rfl⟩
instance oc_224 : OneCell Tryz.prog 224 := ⟨fun _ => by kernel_rfl, fun _ => by kernel_rfl⟩
instance ze_224 : Zero Tryz.prog 224 (Value.int .i64 0) := ⟨fun _ => by kernel_rfl⟩
instance ce_224 : Cells Tryz.prog 224 1 8 := ⟨by kernel_rfl⟩
instance in_224 : IsInt Tryz.prog 224 .i64 := ⟨by kernel_rfl⟩
instance oc_225 : OneCell Tryz.prog 225 := ⟨fun _ => by kernel_rfl, fun _ => by kernel_rfl⟩
instance ze_225 : Zero Tryz.prog 225 (Value.pointer none) := ⟨fun _ => by kernel_rfl⟩
instance ce_225 : Cells Tryz.prog 225 1 8 := ⟨by kernel_rfl⟩
instance pt_225 : IsPtr Tryz.prog 225 := ⟨_, (by kernel_rfl : Program.underlying _ _ = some (.pointer 260))⟩
instance oc_233 : OneCell Tryz.prog 233 := ⟨fun _ => by kernel_rfl, fun _ => by kernel_rfl⟩
instance ze_233 : Zero Tryz.prog 233 (Value.pointer none) := ⟨fun _ => by kernel_rfl⟩
instance ce_233 : Cells Tryz.prog 233 1 8 := ⟨by kernel_rfl⟩
instance pt_233 : IsPtr Tryz.prog 233 := ⟨_, (by kernel_rfl : Program.underlying _ _ = some (.pointer 235))⟩
instance ag_235 : Agg Tryz.prog 235 3 := ⟨fun _ => by kernel_rfl, fun _ => by kernel_rfl⟩
instance ze_235 : Zero Tryz.prog 235 (Value.agg #[Value.string .empty, Value.int .i64 0, Value.int .i64 0]) := ⟨fun _ => by kernel_rfl⟩
instance ce_235 : Cells Tryz.prog 235 3 32 := ⟨by kernel_rfl⟩
instance oc_239 : OneCell Tryz.prog 239 := ⟨fun _ => by kernel_rfl, fun _ => by kernel_rfl⟩
instance ze_239 : Zero Tryz.prog 239 (Value.nilFunc) := ⟨fun _ => by kernel_rfl⟩
instance ce_239 : Cells Tryz.prog 239 1 8 := ⟨by kernel_rfl⟩
instance ag_240 : Agg Tryz.prog 240 30 := ⟨fun _ => by kernel_rfl, fun _ => by kernel_rfl⟩
instance ze_240 : Zero Tryz.prog 240 (Value.agg (List.replicate 30 (Value.nilFunc)).toArray) := ⟨fun _ => by kernel_rfl⟩
instance ce_240 : Cells Tryz.prog 240 30 240 := ⟨by kernel_rfl⟩
instance ar_240 : IsArray Tryz.prog 240 6 185 := ⟨by kernel_rfl⟩
instance oc_241 : OneCell Tryz.prog 241 := ⟨fun _ => by kernel_rfl, fun _ => by kernel_rfl⟩
instance ze_241 : Zero Tryz.prog 241 (Value.int .u64 0) := ⟨fun _ => by kernel_rfl⟩
instance ce_241 : Cells Tryz.prog 241 1 8 := ⟨by kernel_rfl⟩
instance in_241 : IsInt Tryz.prog 241 .u64 := ⟨by kernel_rfl⟩
instance oc_245 : OneCell Tryz.prog 245 := ⟨fun _ => by kernel_rfl, fun _ => by kernel_rfl⟩
instance ze_245 : Zero Tryz.prog 245 (Value.pointer none) := ⟨fun _ => by kernel_rfl⟩
instance ce_245 : Cells Tryz.prog 245 1 8 := ⟨by kernel_rfl⟩
instance pt_245 : IsPtr Tryz.prog 245 := ⟨_, (by kernel_rfl : Program.underlying _ _ = some (.pointer 3))⟩
instance ag_253 : Agg Tryz.prog 253 20 := ⟨fun _ => by kernel_rfl, fun _ => by kernel_rfl⟩
instance ze_253 : Zero Tryz.prog 253 (Value.agg (List.replicate 20 (Value.int .u64 0)).toArray) := ⟨fun _ => by kernel_rfl⟩
instance ce_253 : Cells Tryz.prog 253 20 160 := ⟨by kernel_rfl⟩
instance ar_253 : IsArray Tryz.prog 253 20 156 := ⟨by kernel_rfl⟩
instance ag_254 : Agg Tryz.prog 254 65 := ⟨fun _ => by kernel_rfl, fun _ => by kernel_rfl⟩
instance ze_254 : Zero Tryz.prog 254 (Value.agg (List.replicate 65 (Value.int .u8 0)).toArray) := ⟨fun _ => by kernel_rfl⟩
instance ce_254 : Cells Tryz.prog 254 65 65 := ⟨by kernel_rfl⟩
instance ar_254 : IsArray Tryz.prog 254 65 5 := ⟨by kernel_rfl⟩
instance ag_260 : Agg Tryz.prog 260 3 := ⟨fun _ => by kernel_rfl, fun _ => by kernel_rfl⟩
instance ze_260 : Zero Tryz.prog 260 (Value.agg #[Value.string .empty, Value.string .empty, Value.nilIface]) := ⟨fun _ => by kernel_rfl⟩
instance ce_260 : Cells Tryz.prog 260 3 48 := ⟨by kernel_rfl⟩
instance ag_264 : Agg Tryz.prog 264 8 := ⟨fun _ => by kernel_rfl, fun _ => by kernel_rfl⟩
instance ze_264 : Zero Tryz.prog 264 (Value.agg (List.replicate 8 (Value.int .u8 0)).toArray) := ⟨fun _ => by kernel_rfl⟩
instance ce_264 : Cells Tryz.prog 264 8 8 := ⟨by kernel_rfl⟩
instance ar_264 : IsArray Tryz.prog 264 8 5 := ⟨by kernel_rfl⟩
instance oc_265 : OneCell Tryz.prog 265 := ⟨fun _ => by kernel_rfl, fun _ => by kernel_rfl⟩
instance ze_265 : Zero Tryz.prog 265 (Value.pointer none) := ⟨fun _ => by kernel_rfl⟩
instance ce_265 : Cells Tryz.prog 265 1 8 := ⟨by kernel_rfl⟩
instance pt_265 : IsPtr Tryz.prog 265 := ⟨_, (by kernel_rfl : Program.underlying _ _ = some (.pointer 241))⟩
instance ag_270 : Agg Tryz.prog 270 256 := ⟨fun _ => by kernel_rfl, fun _ => by kernel_rfl⟩
instance ze_270 : Zero Tryz.prog 270 (Value.agg (List.replicate 256 (Value.int .u8 0)).toArray) := ⟨fun _ => by kernel_rfl⟩
instance ce_270 : Cells Tryz.prog 270 256 256 := ⟨by kernel_rfl⟩
instance ar_270 : IsArray Tryz.prog 270 256 5 := ⟨by kernel_rfl⟩
instance ag_272 : Agg Tryz.prog 272 2 := ⟨fun _ => by kernel_rfl, fun _ => by kernel_rfl⟩
instance ze_272 : Zero Tryz.prog 272 (Value.agg #[Value.int .u8 0, Value.int .u8 0]) := ⟨fun _ => by kernel_rfl⟩
instance ce_272 : Cells Tryz.prog 272 2 2 := ⟨by kernel_rfl⟩
instance ag_273 : Agg Tryz.prog 273 32 := ⟨fun _ => by kernel_rfl, fun _ => by kernel_rfl⟩
instance ze_273 : Zero Tryz.prog 273 (Value.agg (List.replicate 32 (Value.int .u8 0)).toArray) := ⟨fun _ => by kernel_rfl⟩
instance ce_273 : Cells Tryz.prog 273 32 32 := ⟨by kernel_rfl⟩
instance ar_273 : IsArray Tryz.prog 273 16 272 := ⟨by kernel_rfl⟩
instance oc_275 : OneCell Tryz.prog 275 := ⟨fun _ => by kernel_rfl, fun _ => by kernel_rfl⟩
instance ze_275 : Zero Tryz.prog 275 (Value.pointer none) := ⟨fun _ => by kernel_rfl⟩
instance ce_275 : Cells Tryz.prog 275 1 8 := ⟨by kernel_rfl⟩
instance pt_275 : IsPtr Tryz.prog 275 := ⟨_, (by kernel_rfl : Program.underlying _ _ = some (.pointer 277))⟩
instance ag_277 : Agg Tryz.prog 277 1 := ⟨fun _ => by kernel_rfl, fun _ => by kernel_rfl⟩
instance ze_277 : Zero Tryz.prog 277 (Value.agg #[Value.string .empty]) := ⟨fun _ => by kernel_rfl⟩
instance ce_277 : Cells Tryz.prog 277 1 16 := ⟨by kernel_rfl⟩
instance ag_280 : Agg Tryz.prog 280 32 := ⟨fun _ => by kernel_rfl, fun _ => by kernel_rfl⟩
instance ze_280 : Zero Tryz.prog 280 (Value.agg (List.replicate 32 (Value.int .u8 0)).toArray) := ⟨fun _ => by kernel_rfl⟩
instance ce_280 : Cells Tryz.prog 280 32 32 := ⟨by kernel_rfl⟩
instance ar_280 : IsArray Tryz.prog 280 32 5 := ⟨by kernel_rfl⟩
instance ag_281 : Agg Tryz.prog 281 64 := ⟨fun _ => by kernel_rfl, fun _ => by kernel_rfl⟩
instance ze_281 : Zero Tryz.prog 281 (Value.agg (List.replicate 64 (Value.int .u8 0)).toArray) := ⟨fun _ => by kernel_rfl⟩
instance ce_281 : Cells Tryz.prog 281 64 64 := ⟨by kernel_rfl⟩
instance ar_281 : IsArray Tryz.prog 281 64 5 := ⟨by kernel_rfl⟩
instance bs_25 : BuildS Tryz.prog 25 ((Value.slice none 0 0) :: (Value.slice none 0 0) :: (Value.int .i64 0) :: []) [(0, 1), (1, 1), (2, 1)] := ⟨fun _ => by kernel_rfl, _, Tryz.underlying25, fun _ => by kernel_rfl⟩
instance bs_45 : BuildS Tryz.prog 45 ((Value.int .i64 0) :: (Value.bool false) :: []) [(0, 1), (1, 1)] := ⟨fun _ => by kernel_rfl, _, Tryz.underlying45, fun _ => by kernel_rfl⟩
instance bs_47 : BuildS Tryz.prog 47 ((Value.bool false) :: (Value.int .i64 0) :: (Value.string .empty) :: []) [(0, 1), (1, 1), (2, 1)] := ⟨fun _ => by kernel_rfl, _, Tryz.underlying47, fun _ => by kernel_rfl⟩
instance bs_49 : BuildS Tryz.prog 49 ((Value.int .i64 0) :: (Value.string .empty) :: (Value.int .i64 0) :: (Value.bool false) :: (Value.bool false) :: (Value.int .i64 0) :: (Value.string .empty) :: []) [(0, 1), (1, 1), (2, 2), (4, 3)] := ⟨fun _ => by kernel_rfl, _, Tryz.underlying49, fun _ => by kernel_rfl⟩
instance bs_53 : BuildS Tryz.prog 53 ((Value.string .empty) :: (Value.slice none 0 0) :: []) [(0, 1), (1, 1)] := ⟨fun _ => by kernel_rfl, _, Tryz.underlying53, fun _ => by kernel_rfl⟩
instance bs_60 : BuildS Tryz.prog 60 ((Value.int .i64 0) :: (Value.int .i64 0) :: (Value.string .empty) :: []) [(0, 1), (1, 1), (2, 1)] := ⟨fun _ => by kernel_rfl, _, Tryz.underlying60, fun _ => by kernel_rfl⟩
instance bs_185 : BuildS Tryz.prog 185 ((Value.nilFunc) :: (Value.nilFunc) :: (Value.nilFunc) :: (Value.nilFunc) :: (Value.nilFunc) :: []) [(0, 1), (1, 1), (2, 1), (3, 1), (4, 1)] := ⟨fun _ => by kernel_rfl, _, Tryz.underlying185, fun _ => by kernel_rfl⟩
instance bs_235 : BuildS Tryz.prog 235 ((Value.string .empty) :: (Value.int .i64 0) :: (Value.int .i64 0) :: []) [(0, 1), (1, 1), (2, 1)] := ⟨fun _ => by kernel_rfl, _, Tryz.underlying235, fun _ => by kernel_rfl⟩
instance bs_260 : BuildS Tryz.prog 260 ((Value.string .empty) :: (Value.string .empty) :: (Value.nilIface) :: []) [(0, 1), (1, 1), (2, 1)] := ⟨fun _ => by kernel_rfl, _, Tryz.underlying260, fun _ => by kernel_rfl⟩
instance bs_272 : BuildS Tryz.prog 272 ((Value.int .u8 0) :: (Value.int .u8 0) :: []) [(0, 1), (1, 1)] := ⟨fun _ => by kernel_rfl, _, Tryz.underlying272, fun _ => by kernel_rfl⟩
instance bs_277 : BuildS Tryz.prog 277 ((Value.string .empty) :: []) [(0, 1)] := ⟨fun _ => by kernel_rfl, _, Tryz.underlying277, fun _ => by kernel_rfl⟩
instance fa_25_0 : FieldAt Tryz.prog 25 0 0 := ⟨fun _ _ => by kernel_rfl⟩
instance fa_25_1 : FieldAt Tryz.prog 25 1 1 := ⟨fun _ _ => by kernel_rfl⟩
instance fa_25_2 : FieldAt Tryz.prog 25 2 2 := ⟨fun _ _ => by kernel_rfl⟩
instance fa_45_0 : FieldAt Tryz.prog 45 0 0 := ⟨fun _ _ => by kernel_rfl⟩
instance fa_45_1 : FieldAt Tryz.prog 45 1 1 := ⟨fun _ _ => by kernel_rfl⟩
instance fa_47_0 : FieldAt Tryz.prog 47 0 0 := ⟨fun _ _ => by kernel_rfl⟩
instance fa_47_1 : FieldAt Tryz.prog 47 1 1 := ⟨fun _ _ => by kernel_rfl⟩
instance fa_47_2 : FieldAt Tryz.prog 47 2 2 := ⟨fun _ _ => by kernel_rfl⟩
instance fa_49_0 : FieldAt Tryz.prog 49 0 0 := ⟨fun _ _ => by kernel_rfl⟩
instance fa_49_1 : FieldAt Tryz.prog 49 1 1 := ⟨fun _ _ => by kernel_rfl⟩
instance fa_49_2 : FieldAt Tryz.prog 49 2 2 := ⟨fun _ _ => by kernel_rfl⟩
instance fa_49_3 : FieldAt Tryz.prog 49 3 4 := ⟨fun _ _ => by kernel_rfl⟩
instance fa_53_0 : FieldAt Tryz.prog 53 0 0 := ⟨fun _ _ => by kernel_rfl⟩
instance fa_53_1 : FieldAt Tryz.prog 53 1 1 := ⟨fun _ _ => by kernel_rfl⟩
instance fa_60_0 : FieldAt Tryz.prog 60 0 0 := ⟨fun _ _ => by kernel_rfl⟩
instance fa_60_1 : FieldAt Tryz.prog 60 1 1 := ⟨fun _ _ => by kernel_rfl⟩
instance fa_60_2 : FieldAt Tryz.prog 60 2 2 := ⟨fun _ _ => by kernel_rfl⟩
instance fa_74_0 : FieldAt Tryz.prog 74 0 0 := ⟨fun _ _ => by kernel_rfl⟩
instance fa_74_1 : FieldAt Tryz.prog 74 1 3 := ⟨fun _ _ => by kernel_rfl⟩
instance fa_103_0 : FieldAt Tryz.prog 103 0 0 := ⟨fun _ _ => by kernel_rfl⟩
instance fa_124_0 : FieldAt Tryz.prog 124 0 0 := ⟨fun _ _ => by kernel_rfl⟩
instance fa_124_1 : FieldAt Tryz.prog 124 1 1 := ⟨fun _ _ => by kernel_rfl⟩
instance fa_235_0 : FieldAt Tryz.prog 235 0 0 := ⟨fun _ _ => by kernel_rfl⟩
instance fa_235_1 : FieldAt Tryz.prog 235 1 1 := ⟨fun _ _ => by kernel_rfl⟩
instance fa_235_2 : FieldAt Tryz.prog 235 2 2 := ⟨fun _ _ => by kernel_rfl⟩
instance fa_272_0 : FieldAt Tryz.prog 272 0 0 := ⟨fun _ _ => by kernel_rfl⟩
instance fa_272_1 : FieldAt Tryz.prog 272 1 1 := ⟨fun _ _ => by kernel_rfl⟩
instance fo_185_0 : FieldOf Tryz.prog 185 0 0 180 := ⟨_, Tryz.underlying185, rfl⟩
instance fo_185_1 : FieldOf Tryz.prog 185 1 1 181 := ⟨_, Tryz.underlying185, rfl⟩
instance fo_185_2 : FieldOf Tryz.prog 185 2 2 182 := ⟨_, Tryz.underlying185, rfl⟩
instance en_3 : Enters Tryz.prog 3 := ⟨fun _ _ => by kernel_rfl⟩
instance en_8 : Enters Tryz.prog 8 := ⟨fun _ _ => by kernel_rfl⟩
instance en_11 : Enters Tryz.prog 11 := ⟨fun _ _ => by kernel_rfl⟩
instance en_12 : Enters Tryz.prog 12 := ⟨fun _ _ => by kernel_rfl⟩
instance en_13 : Enters Tryz.prog 13 := ⟨fun _ _ => by kernel_rfl⟩
instance en_14 : Enters Tryz.prog 14 := ⟨fun _ _ => by kernel_rfl⟩
instance en_15 : Enters Tryz.prog 15 := ⟨fun _ _ => by kernel_rfl⟩
instance en_16 : Enters Tryz.prog 16 := ⟨fun _ _ => by kernel_rfl⟩
instance en_17 : Enters Tryz.prog 17 := ⟨fun _ _ => by kernel_rfl⟩
instance en_18 : Enters Tryz.prog 18 := ⟨fun _ _ => by kernel_rfl⟩
instance en_19 : Enters Tryz.prog 19 := ⟨fun _ _ => by kernel_rfl⟩
instance en_20 : Enters Tryz.prog 20 := ⟨fun _ _ => by kernel_rfl⟩
instance en_21 : Enters Tryz.prog 21 := ⟨fun _ _ => by kernel_rfl⟩
instance en_22 : Enters Tryz.prog 22 := ⟨fun _ _ => by kernel_rfl⟩
instance en_23 : Enters Tryz.prog 23 := ⟨fun _ _ => by kernel_rfl⟩
instance en_24 : Enters Tryz.prog 24 := ⟨fun _ _ => by kernel_rfl⟩
instance en_25 : Enters Tryz.prog 25 := ⟨fun _ _ => by kernel_rfl⟩
instance en_26 : Enters Tryz.prog 26 := ⟨fun _ _ => by kernel_rfl⟩
instance en_27 : Enters Tryz.prog 27 := ⟨fun _ _ => by kernel_rfl⟩
instance en_28 : Enters Tryz.prog 28 := ⟨fun _ _ => by kernel_rfl⟩
instance en_29 : Enters Tryz.prog 29 := ⟨fun _ _ => by kernel_rfl⟩
instance en_30 : Enters Tryz.prog 30 := ⟨fun _ _ => by kernel_rfl⟩
instance en_31 : Enters Tryz.prog 31 := ⟨fun _ _ => by kernel_rfl⟩
instance en_32 : Enters Tryz.prog 32 := ⟨fun _ _ => by kernel_rfl⟩
instance en_33 : Enters Tryz.prog 33 := ⟨fun _ _ => by kernel_rfl⟩
instance en_35 : Enters Tryz.prog 35 := ⟨fun _ _ => by kernel_rfl⟩
instance en_36 : Enters Tryz.prog 36 := ⟨fun _ _ => by kernel_rfl⟩
instance en_37 : Enters Tryz.prog 37 := ⟨fun _ _ => by kernel_rfl⟩
instance en_38 : Enters Tryz.prog 38 := ⟨fun _ _ => by kernel_rfl⟩
instance en_39 : Enters Tryz.prog 39 := ⟨fun _ _ => by kernel_rfl⟩
instance en_40 : Enters Tryz.prog 40 := ⟨fun _ _ => by kernel_rfl⟩
instance en_41 : Enters Tryz.prog 41 := ⟨fun _ _ => by kernel_rfl⟩
instance en_42 : Enters Tryz.prog 42 := ⟨fun _ _ => by kernel_rfl⟩
instance en_43 : Enters Tryz.prog 43 := ⟨fun _ _ => by kernel_rfl⟩
instance en_44 : Enters Tryz.prog 44 := ⟨fun _ _ => by kernel_rfl⟩
instance en_45 : Enters Tryz.prog 45 := ⟨fun _ _ => by kernel_rfl⟩
instance en_46 : Enters Tryz.prog 46 := ⟨fun _ _ => by kernel_rfl⟩
instance en_47 : Enters Tryz.prog 47 := ⟨fun _ _ => by kernel_rfl⟩
instance en_48 : Enters Tryz.prog 48 := ⟨fun _ _ => by kernel_rfl⟩
instance en_49 : Enters Tryz.prog 49 := ⟨fun _ _ => by kernel_rfl⟩
instance en_50 : Enters Tryz.prog 50 := ⟨fun _ _ => by kernel_rfl⟩
instance en_51 : Enters Tryz.prog 51 := ⟨fun _ _ => by kernel_rfl⟩
instance en_52 : Enters Tryz.prog 52 := ⟨fun _ _ => by kernel_rfl⟩
instance en_53 : Enters Tryz.prog 53 := ⟨fun _ _ => by kernel_rfl⟩
instance en_54 : Enters Tryz.prog 54 := ⟨fun _ _ => by kernel_rfl⟩
instance en_55 : Enters Tryz.prog 55 := ⟨fun _ _ => by kernel_rfl⟩
instance en_56 : Enters Tryz.prog 56 := ⟨fun _ _ => by kernel_rfl⟩
instance en_57 : Enters Tryz.prog 57 := ⟨fun _ _ => by kernel_rfl⟩
instance en_58 : Enters Tryz.prog 58 := ⟨fun _ _ => by kernel_rfl⟩
instance en_61 : Enters Tryz.prog 61 := ⟨fun _ _ => by kernel_rfl⟩
instance en_62 : Enters Tryz.prog 62 := ⟨fun _ _ => by kernel_rfl⟩
instance en_63 : Enters Tryz.prog 63 := ⟨fun _ _ => by kernel_rfl⟩
instance en_64 : Enters Tryz.prog 64 := ⟨fun _ _ => by kernel_rfl⟩
instance en_65 : Enters Tryz.prog 65 := ⟨fun _ _ => by kernel_rfl⟩
instance en_66 : Enters Tryz.prog 66 := ⟨fun _ _ => by kernel_rfl⟩
instance en_67 : Enters Tryz.prog 67 := ⟨fun _ _ => by kernel_rfl⟩
instance en_68 : Enters Tryz.prog 68 := ⟨fun _ _ => by kernel_rfl⟩
instance en_69 : Enters Tryz.prog 69 := ⟨fun _ _ => by kernel_rfl⟩
instance en_70 : Enters Tryz.prog 70 := ⟨fun _ _ => by kernel_rfl⟩
instance en_71 : Enters Tryz.prog 71 := ⟨fun _ _ => by kernel_rfl⟩
instance en_72 : Enters Tryz.prog 72 := ⟨fun _ _ => by kernel_rfl⟩
instance en_73 : Enters Tryz.prog 73 := ⟨fun _ _ => by kernel_rfl⟩
instance en_74 : Enters Tryz.prog 74 := ⟨fun _ _ => by kernel_rfl⟩
instance en_75 : Enters Tryz.prog 75 := ⟨fun _ _ => by kernel_rfl⟩
instance en_77 : Enters Tryz.prog 77 := ⟨fun _ _ => by kernel_rfl⟩
instance en_79 : Enters Tryz.prog 79 := ⟨fun _ _ => by kernel_rfl⟩
instance en_81 : Enters Tryz.prog 81 := ⟨fun _ _ => by kernel_rfl⟩
instance en_82 : Enters Tryz.prog 82 := ⟨fun _ _ => by kernel_rfl⟩
instance en_83 : Enters Tryz.prog 83 := ⟨fun _ _ => by kernel_rfl⟩
instance en_85 : Enters Tryz.prog 85 := ⟨fun _ _ => by kernel_rfl⟩
instance en_86 : Enters Tryz.prog 86 := ⟨fun _ _ => by kernel_rfl⟩
instance en_87 : Enters Tryz.prog 87 := ⟨fun _ _ => by kernel_rfl⟩
instance en_88 : Enters Tryz.prog 88 := ⟨fun _ _ => by kernel_rfl⟩
instance en_89 : Enters Tryz.prog 89 := ⟨fun _ _ => by kernel_rfl⟩
instance en_91 : Enters Tryz.prog 91 := ⟨fun _ _ => by kernel_rfl⟩
instance en_92 : Enters Tryz.prog 92 := ⟨fun _ _ => by kernel_rfl⟩
instance en_93 : Enters Tryz.prog 93 := ⟨fun _ _ => by kernel_rfl⟩
instance en_94 : Enters Tryz.prog 94 := ⟨fun _ _ => by kernel_rfl⟩
instance en_95 : Enters Tryz.prog 95 := ⟨fun _ _ => by kernel_rfl⟩
instance en_96 : Enters Tryz.prog 96 := ⟨fun _ _ => by kernel_rfl⟩
instance en_97 : Enters Tryz.prog 97 := ⟨fun _ _ => by kernel_rfl⟩
instance en_98 : Enters Tryz.prog 98 := ⟨fun _ _ => by kernel_rfl⟩
instance en_99 : Enters Tryz.prog 99 := ⟨fun _ _ => by kernel_rfl⟩
instance en_100 : Enters Tryz.prog 100 := ⟨fun _ _ => by kernel_rfl⟩
instance en_102 : Enters Tryz.prog 102 := ⟨fun _ _ => by kernel_rfl⟩
instance en_103 : Enters Tryz.prog 103 := ⟨fun _ _ => by kernel_rfl⟩
instance en_104 : Enters Tryz.prog 104 := ⟨fun _ _ => by kernel_rfl⟩
instance en_105 : Enters Tryz.prog 105 := ⟨fun _ _ => by kernel_rfl⟩
instance en_106 : Enters Tryz.prog 106 := ⟨fun _ _ => by kernel_rfl⟩
instance en_107 : Enters Tryz.prog 107 := ⟨fun _ _ => by kernel_rfl⟩
instance en_108 : Enters Tryz.prog 108 := ⟨fun _ _ => by kernel_rfl⟩
instance en_109 : Enters Tryz.prog 109 := ⟨fun _ _ => by kernel_rfl⟩
instance en_110 : Enters Tryz.prog 110 := ⟨fun _ _ => by kernel_rfl⟩
instance en_111 : Enters Tryz.prog 111 := ⟨fun _ _ => by kernel_rfl⟩
instance en_112 : Enters Tryz.prog 112 := ⟨fun _ _ => by kernel_rfl⟩
instance en_113 : Enters Tryz.prog 113 := ⟨fun _ _ => by kernel_rfl⟩
instance en_114 : Enters Tryz.prog 114 := ⟨fun _ _ => by kernel_rfl⟩
instance en_120 : Enters Tryz.prog 120 := ⟨fun _ _ => by kernel_rfl⟩
instance en_122 : Enters Tryz.prog 122 := ⟨fun _ _ => by kernel_rfl⟩
instance en_123 : Enters Tryz.prog 123 := ⟨fun _ _ => by kernel_rfl⟩
instance en_124 : Enters Tryz.prog 124 := ⟨fun _ _ => by kernel_rfl⟩
instance en_125 : Enters Tryz.prog 125 := ⟨fun _ _ => by kernel_rfl⟩
instance en_126 : Enters Tryz.prog 126 := ⟨fun _ _ => by kernel_rfl⟩
instance en_127 : Enters Tryz.prog 127 := ⟨fun _ _ => by kernel_rfl⟩
instance en_128 : Enters Tryz.prog 128 := ⟨fun _ _ => by kernel_rfl⟩
instance en_129 : Enters Tryz.prog 129 := ⟨fun _ _ => by kernel_rfl⟩
instance en_131 : Enters Tryz.prog 131 := ⟨fun _ _ => by kernel_rfl⟩
instance en_132 : Enters Tryz.prog 132 := ⟨fun _ _ => by kernel_rfl⟩
instance en_133 : Enters Tryz.prog 133 := ⟨fun _ _ => by kernel_rfl⟩
instance en_134 : Enters Tryz.prog 134 := ⟨fun _ _ => by kernel_rfl⟩
instance en_135 : Enters Tryz.prog 135 := ⟨fun _ _ => by kernel_rfl⟩
instance en_141 : Enters Tryz.prog 141 := ⟨fun _ _ => by kernel_rfl⟩
instance en_142 : Enters Tryz.prog 142 := ⟨fun _ _ => by kernel_rfl⟩
instance en_143 : Enters Tryz.prog 143 := ⟨fun _ _ => by kernel_rfl⟩
instance en_144 : Enters Tryz.prog 144 := ⟨fun _ _ => by kernel_rfl⟩
instance en_145 : Enters Tryz.prog 145 := ⟨fun _ _ => by kernel_rfl⟩
instance en_146 : Enters Tryz.prog 146 := ⟨fun _ _ => by kernel_rfl⟩
instance en_147 : Enters Tryz.prog 147 := ⟨fun _ _ => by kernel_rfl⟩
instance en_151 : Enters Tryz.prog 151 := ⟨fun _ _ => by kernel_rfl⟩
instance en_152 : Enters Tryz.prog 152 := ⟨fun _ _ => by kernel_rfl⟩
instance en_153 : Enters Tryz.prog 153 := ⟨fun _ _ => by kernel_rfl⟩
instance en_154 : Enters Tryz.prog 154 := ⟨fun _ _ => by kernel_rfl⟩
instance en_155 : Enters Tryz.prog 155 := ⟨fun _ _ => by kernel_rfl⟩
instance en_156 : Enters Tryz.prog 156 := ⟨fun _ _ => by kernel_rfl⟩
instance en_157 : Enters Tryz.prog 157 := ⟨fun _ _ => by kernel_rfl⟩
instance en_173 : Enters Tryz.prog 173 := ⟨fun _ _ => by kernel_rfl⟩
instance en_174 : Enters Tryz.prog 174 := ⟨fun _ _ => by kernel_rfl⟩
instance en_175 : Enters Tryz.prog 175 := ⟨fun _ _ => by kernel_rfl⟩
instance en_180 : Enters Tryz.prog 180 := ⟨fun _ _ => by kernel_rfl⟩
instance en_181 : Enters Tryz.prog 181 := ⟨fun _ _ => by kernel_rfl⟩
instance en_182 : Enters Tryz.prog 182 := ⟨fun _ _ => by kernel_rfl⟩
instance en_183 : Enters Tryz.prog 183 := ⟨fun _ _ => by kernel_rfl⟩
instance en_188 : Enters Tryz.prog 188 := ⟨fun _ _ => by kernel_rfl⟩
instance en_189 : Enters Tryz.prog 189 := ⟨fun _ _ => by kernel_rfl⟩
instance en_196 : Enters Tryz.prog 196 := ⟨fun _ _ => by kernel_rfl⟩
instance en_197 : Enters Tryz.prog 197 := ⟨fun _ _ => by kernel_rfl⟩
instance en_198 : Enters Tryz.prog 198 := ⟨fun _ _ => by kernel_rfl⟩
instance en_199 : Enters Tryz.prog 199 := ⟨fun _ _ => by kernel_rfl⟩
instance en_200 : Enters Tryz.prog 200 := ⟨fun _ _ => by kernel_rfl⟩
instance en_201 : Enters Tryz.prog 201 := ⟨fun _ _ => by kernel_rfl⟩
instance en_202 : Enters Tryz.prog 202 := ⟨fun _ _ => by kernel_rfl⟩
instance en_203 : Enters Tryz.prog 203 := ⟨fun _ _ => by kernel_rfl⟩
instance en_204 : Enters Tryz.prog 204 := ⟨fun _ _ => by kernel_rfl⟩
instance en_206 : Enters Tryz.prog 206 := ⟨fun _ _ => by kernel_rfl⟩
instance en_207 : Enters Tryz.prog 207 := ⟨fun _ _ => by kernel_rfl⟩
instance en_208 : Enters Tryz.prog 208 := ⟨fun _ _ => by kernel_rfl⟩
instance en_217 : Enters Tryz.prog 217 := ⟨fun _ _ => by kernel_rfl⟩
instance en_222 : Enters Tryz.prog 222 := ⟨fun _ _ => by kernel_rfl⟩
instance en_223 : Enters Tryz.prog 223 := ⟨fun _ _ => by kernel_rfl⟩
instance en_230 : Enters Tryz.prog 230 := ⟨fun _ _ => by kernel_rfl⟩
instance en_234 : Enters Tryz.prog 234 := ⟨fun _ _ => by kernel_rfl⟩
instance en_235 : Enters Tryz.prog 235 := ⟨fun _ _ => by kernel_rfl⟩
instance en_240 : Enters Tryz.prog 240 := ⟨fun _ _ => by kernel_rfl⟩
instance en_241 : Enters Tryz.prog 241 := ⟨fun _ _ => by kernel_rfl⟩
instance en_245 : Enters Tryz.prog 245 := ⟨fun _ _ => by kernel_rfl⟩
instance en_246 : Enters Tryz.prog 246 := ⟨fun _ _ => by kernel_rfl⟩
instance en_248 : Enters Tryz.prog 248 := ⟨fun _ _ => by kernel_rfl⟩
instance en_249 : Enters Tryz.prog 249 := ⟨fun _ _ => by kernel_rfl⟩
instance en_250 : Enters Tryz.prog 250 := ⟨fun _ _ => by kernel_rfl⟩
instance en_251 : Enters Tryz.prog 251 := ⟨fun _ _ => by kernel_rfl⟩
instance en_252 : Enters Tryz.prog 252 := ⟨fun _ _ => by kernel_rfl⟩
instance en_257 : Enters Tryz.prog 257 := ⟨fun _ _ => by kernel_rfl⟩
instance en_262 : Enters Tryz.prog 262 := ⟨fun _ _ => by kernel_rfl⟩
instance en_263 : Enters Tryz.prog 263 := ⟨fun _ _ => by kernel_rfl⟩
instance en_266 : Enters Tryz.prog 266 := ⟨fun _ _ => by kernel_rfl⟩
end Go.Proofs.YtolaedhdjcnijaaGreatDoor
namespace Go.Mw
open Go.RowKit

section
variable {P : Program} {r : Option Nat} {n : Nat} {ops : Array Oper} {Q : Post} {rest : List Oper} {σ : St} {w w₀ : World} {S : Nat → Prop} {rs : List HP} {ty : TypeId} {pos : String} {after : Array Edge}
def YieldB (P : Program) (l : Nat) (xs : List Value) (w : World) (R : Bool → World → Prop) : Prop :=
 ∃ fn tmps assign body, (Instr.yield l xs.toArray).run P w = .ok (.round l fn tmps assign body) w ∧ RoundIn (fen none) 0 P l fn tmps assign body w (Ret fun v w' => ∃ b, v = .bool b ∧ R b w')
theorem FL_yieldB {d l : Nat} {y : Operand} {xs : List Operand} {ats : Array TypeId} {vals : List Value} {R : Bool → World → Prop} (hy : evF σ y = .func (.yield l) #[] #[]) (hc : YieldB P l vals w R)
    (hv : xs.map (evF σ) = vals) (hd : Nat.blt d n = true) (h : ∀ b w', R b w' → FL P r n ops Q rest (upd σ d (.bool b)) w') :
    FL P r n ops Q ({ dst := some d, op := .call { callee := .value y, args := xs.toArray, argTypes := ats }, type := ty, pos := pos, after := after, guard := none } :: rest) σ w := fun a ha =>
  wpListIn_plain rfl fun K hK => by
    obtain ⟨fn, tmps, assign, body, hrun, hround⟩ := hc
    refine ⟨fun _ _ => trivial, ?_⟩
    rw [Oper.semAt_eq _ _ _ (fun _ h => by cases h), ha.eval]
    have e : (execOp (evF σ) { dst := some d, op := .call { callee := .value y, args := xs.toArray, argTypes := ats }, type := ty, pos := pos, after := after, guard := none }).run P w = .ok (.round l fn tmps assign body) w := by
      simp [execOp, resolve, hy, Deferred.ofValue, invoke, hv, hrun]
    rw [e, Oper.uponIn_round]
    refine ⟨(fun h => by cases h), RoundIn.mono (F := fen r) hround fun en w'' hr => ?_⟩
    cases en with
    | returned v => obtain ⟨b, rfl, hR⟩ := hr; exact hK _ _ (h b w'' hR _ (ha.put (Nat.le_of_ble_eq_true hd) _))
    | _ => exact hr.elim

def Qleave (K Kr : World → Prop) : Post := fun e _ w => match e with
 | .normal => K w
 | .ret => Kr w
 | _ => False
theorem Qleave_normal {K Kr : World → Prop} (h : K w) : Qleave K Kr .normal σ w := h
theorem Qleave_ret {K Kr : World → Prop} (h : Kr w) : Qleave K Kr .ret σ w := h

end
end Go.Mw
namespace Go.Mw
open Go.RowKit

def Turn (F : Nat → Prop) (q : HP) (w w' : World) : Prop := Kept F w w' ∧ ∃ F', q.ok F' w' ∧ ∀ b, F' b → F b ∨ w.heap.size ≤ b
section
variable {P : Program} {r : Option Nat} {n : Nat} {ops : Array Oper} {Q : Post} {rest : List Oper} {σ : St} {w w' w₀ : World} {S F : Nat → Prop} {rs : List HP} {p q : HP} {put : HP → List HP} {op : Op} {ty : TypeId} {pos : String} {after : Array Edge}
theorem starL_one {F : Nat → Prop} : (starL [p]).ok F w ↔ p.ok F w := by
 constructor
 ·rintro ⟨F1, F2, hF, hd, hp, ⟨_, h2⟩⟩
  have : F = F1 := funext fun b => propext ((hF b).trans ⟨fun h => h.elim id fun h => (h2 b h).elim, .inl⟩)
  rw [this]; exact hp
 intro h
 exact ⟨F, fun _ => False, fun b => by simp, fun _ _ h => h, h, trivial, fun _ h => h⟩
theorem Sep.start1 (h : p.ok F w) : Sep w F [p] w := Sep.start [p] (starL_one.2 h)
theorem Sep.turn (h : Sep w₀ F [p] w) : Turn F p w₀ w := by
 obtain ⟨h1, F', hF, hs⟩ := h
 exact ⟨h1, F', starL_one.1 hF, hs⟩
theorem Turn.refl (h : p.ok F w) : Turn F p w w := ⟨Kept.refl _ _, F, h, fun _ hb => .inl hb⟩
theorem Sep.front7 {a b c d e f g p : HP} {l : List HP} (h : Sep w₀ S (a :: b :: c :: d :: e :: f :: g :: p :: l) w) : Sep w₀ S (p :: a :: b :: c :: d :: e :: f :: g :: l) w := Sep.front (l1 := [a, b, c, d, e, f, g]) h
theorem Sep.back1 {a p : HP} {l : List HP} (h : Sep w₀ S (p :: a :: l) w) : Sep w₀ S (a :: p :: l) w := h.front1
theorem Sep.back2 {a b p : HP} {l : List HP} (h : Sep w₀ S (p :: a :: b :: l) w) : Sep w₀ S (a :: b :: p :: l) w := h.front2.front2
theorem Sep.first (h : Sep w₀ S (p :: rs) w) : Sep w₀ S [p] w := by
 induction rs with
 | nil => exact h
 | cons a rs ih => exact ih (h.front1.drop0)
theorem Sep.firsts {l rs : List HP} (h : Sep w₀ S (l ++ rs) w) : Sep w₀ S l w := by
 have := (Sep.bundle h).first.parts
 rwa [List.append_nil] at this
theorem FL_callS {d : Nat} {f : FuncId} {xs : List Operand} {ats : Array TypeId} {vals : List Value} {v : Value} [he : Enters P f]
    (hc : Rets P f vals w fun v' w' => v' = v ∧ w = w') (hv : xs.map (evF σ) = vals := by exact rfl) (hd : Nat.blt d n = true := by exact rfl)
    (h : FL P r n ops Q rest (upd σ d v) w) :
    FL P r n ops Q ({ dst := some d, op := .call { callee := .value (.func f), args := xs.toArray, argTypes := ats }, type := ty, pos := pos, after := after, guard := none } :: rest) σ w :=
  FL_call hc hv hd fun v' w' ⟨hx, hw⟩ => by subst hx; subst hw; exact h
theorem FL_loadB {d b o : Nat} {x : Operand} {T : TypeId} [OneCell P T] {cs : List Value} {E : TypeId} {v : Value} (hb : w.heap[b]? = some (.cells cs.toArray E (0, 0))) (hx : evF σ x = .pointer (some ⟨b, o, none⟩) := by exact rfl)
    (hv : cs[o]? = some v := by exact rfl) (hd : Nat.blt d n = true := by exact rfl) (h : FL P r n ops Q rest (upd σ d v) w) :
    FL P r n ops Q ({ dst := some d, op := .load T x, type := ty, pos := pos, after := after, guard := none } :: rest) σ w := FL_val (Gives.load1 hx hb hv) hd h
theorem FL_callN {d : Nat} {f : FuncId} {xs : List Operand} {ats : Array TypeId} {vals : List Value} {α : Type} {val : α → Value} {φ : α → Prop} {q : α → HP} [he : Enters P f] (H : Sep w₀ S rs w)
    (hc : Rets P f vals w fun v w' => ∃ x, v = val x ∧ φ x ∧ Turn noB (q x) w w') (hv : xs.map (evF σ) = vals := by exact rfl) (hd : Nat.blt d n = true := by exact rfl)
    (h : ∀ x w', φ x → Sep w₀ S (q x :: rs) w' → Kept noB w w' → FL P r n ops Q rest (upd σ d (val x)) w') :
    FL P r n ops Q ({ dst := some d, op := .call { callee := .value (.func f), args := xs.toArray, argTypes := ats }, type := ty, pos := pos, after := after, guard := none } :: rest) σ w := by
  refine FL_call hc hv hd fun v w' ⟨x, hx, hφ, hk, F', hq, hs⟩ => ?_
  subst hx
  exact h x w' hφ (H.new hk hq fun b hb => (hs b hb).resolve_left id) hk
end
end Go.Mw
