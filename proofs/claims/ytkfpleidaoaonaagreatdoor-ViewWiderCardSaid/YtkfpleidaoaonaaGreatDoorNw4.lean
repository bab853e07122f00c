/-
 Made by program:what the translation's tables say of the types and functions that its code uses.
-/
import Derived.Test.YtkfpleidaoaonaaGreatDoorNw1
import Derived.Test.YtkfpleidaoaonaaGreatDoorProg
import Derived.Test.YtkfpleidaoaonaaGreatDoorNw3
import Derived.KernelRfl
import Derived.Laws.OwnMore
import Derived.Stop.BytesEq
set_option linter.unusedVariables false
set_option linter.unusedSimpArgs false
namespace Go.Proofs.YtkfpleidaoaonaaGreatDoor
open Go Go.Mw Go.Proofs.Tryz
abbrev Oa:=@OneCell prog
abbrev Za:=@Zero prog
abbrev Ca:=@Cells prog
abbrev Ia:=@lZ prog
abbrev Aa:=@Agg prog
abbrev Ib:=@dh prog
abbrev Ic:=@YM prog
abbrev Id:=@Ar prog
abbrev Ba:=@aeY prog
abbrev Fa:=@Aq prog
abbrev Ea:=@qb prog
instance:Oa 1:={}
instance:Za 1 (Value.nilFunc):={}
instance:Ca 1 1 8:={}
instance alm:Oa 2:={}
instance:Za 2 (Value.int .i64 0):={}
instance:Ca 2 1 8:={}
instance:Ia 2 .i64:={}
instance ajw:Oa 3:={}
instance:Za 3 (Value.int .i64 0):={}
instance:Ca 3 1 8:={}
instance:Ia 3 .i64:={}
instance aln:Oa 4:={}
instance:Za 4 (Value.bool false):={}
instance:Ca 4 1 1:={}
instance:V8 prog 4:={}
instance:Oa 5:={}
instance:Za 5 (Value.int .u8 0):={}
instance:Ca 5 1 1:={}
instance:Ia 5 .u8:={}
instance:Oa 6:={}
instance:Za 6 (Value.int .u8 0):={}
instance:Ca 6 1 1:={}
instance:Ia 6 .u8:={}
instance:Aa 7 4:={}
instance:Za 7 (Value.agg #[Value.int .i64 0,Value.int .i64 0,Value.bool false,Value.int .u8 0]):={}
instance:Ca 7 4 24:={}
instance ajx:Oa 9:={}
instance:Za 9 (Value.string .empty):={}
instance:Ca 9 1 16:={}
instance:j3 prog 9:={}
instance:Oa 12:={}
instance:Za 12 (Value.int .u64 0):={}
instance:Ca 12 1 8:={}
instance:Ia 12 .u64:={}
instance:Oa 20:={}
instance:Za 20 (Value.nilIface):={}
instance:Ca 20 1 16:={}
instance:Oa 21:={}
instance:Za 21 (Value.int .i32 0):={}
instance:Ca 21 1 4:={}
instance:Ia 21 .i32:={}
instance:Oa 22:={}
instance:Za 22 (Value.slice none 0 0):={}
instance:Ca 22 1 24:={}
instance:Ib 22 54:={}
instance:Oa 23:={}
instance:Za 23 (Value.slice none 0 0):={}
instance:Ca 23 1 24:={}
instance:Ib 23 92:={}
instance:Oa 24:={}
instance:Za 24 (Value.slice none 0 0):={}
instance:Ca 24 1 24:={}
instance:Ib 24 94:={}
instance:Aa 26 3:={}
instance:Za 26 (Value.agg #[Value.slice none 0 0,Value.slice none 0 0,Value.int .i64 0]):={}
instance:Ca 26 3 56:={}
instance:Oa 27:={}
instance:Za 27 (Value.slice none 0 0):={}
instance:Ca 27 1 24:={}
instance:Ib 27 82:={}
instance:Oa 29:={}
instance:Za 29 (Value.int .i64 0):={}
instance:Ca 29 1 8:={}
instance:Ia 29 .i64:={}
instance:Oa 37:={}
instance:Za 37 (Value.slice none 0 0):={}
instance:Ca 37 1 24:={}
instance:Ib 37 27:={}
instance:Oa 38:={}
instance:Za 38 (Value.pointer none):={}
instance:Ca 38 1 8:={}
instance:Ic 38:=⟨_,(by kernel_rfl:Program.underlying _ _=some (.pointer 75))⟩
instance:Oa 41:={}
instance:Za 41 (Value.pointer none):={}
instance:Ca 41 1 8:={}
instance:Ic 41:=⟨_,(by kernel_rfl:Program.underlying _ _=some (.pointer 48))⟩
instance:Aa 48 6:={}
instance:Za 48 (Value.agg #[Value.slice none 0 0,Value.slice none 0 0,Value.slice none 0 0,Value.int .i64 0,Value.slice none 0 0,Value.slice none 0 0]):={}
instance:Ca 48 6 128:={}
instance alo:Aa 50 2:={}
instance:Za 50 (Value.agg #[Value.int .i64 0,Value.bool false]):={}
instance:Ca 50 2 16:={}
instance alp:Aa 52 3:={}
instance:Za 52 (Value.agg #[Value.bool false,Value.int .i64 0,Value.string .empty]):={}
instance:Ca 52 3 32:={}
instance:Aa 54 7:={}
instance:Za 54 (Value.agg #[Value.int .i64 0,Value.string .empty,Value.int .i64 0,Value.bool false,Value.bool false,Value.int .i64 0,Value.string .empty]):={}
instance:Ca 54 7 72:={}
instance:Oa 60:={}
instance:Za 60 (Value.nilIface):={}
instance:Ca 60 1 16:={}
instance:Oa 64:={}
instance:Za 64 (Value.int .u32 0):={}
instance:Ca 64 1 4:={}
instance:Ia 64 .u32:={}
instance:Aa 66 1:={}
instance:Za 66 (Value.agg #[Value.int .u32 0]):={}
instance:Ca 66 1 4:={}
instance:Aa 68 2:={}
instance:Za 68 (Value.agg #[Value.int .i32 0,Value.int .u32 0]):={}
instance:Ca 68 2 8:={}
instance:Aa 70 2:={}
instance:Za 70 (Value.agg #[Value.int .i32 0,Value.int .u32 0]):={}
instance:Ca 70 2 8:={}
instance:Aa 72 3:={}
instance:Za 72 (Value.agg #[Value.int .u32 0,Value.int .i32 0,Value.int .u32 0]):={}
instance:Ca 72 3 12:={}
instance:Oa 73:={}
instance:Za 73 (Value.nilFunc):={}
instance:Ca 73 1 8:={}
instance:Aa 75 10:={}
instance:Za 75 (Value.agg #[Value.slice none 0 0,Value.slice none 0 0,Value.slice none 0 0,Value.int .i64 0,Value.slice none 0 0,Value.nilIface,Value.int .u32 0,Value.int .i32 0,Value.int .u32 0,Value.nilFunc]):={}
instance:Ca 75 10 144:={}
instance:Aa 79 2:={}
instance:Za 79 (Value.agg #[Value.slice none 0 0,Value.slice none 0 0]):={}
instance:Ca 79 2 48:={}
instance:Id 79 2 27:={}
instance:Oa 80:={}
instance:Za 80 (Value.slice none 0 0):={}
instance:Ca 80 1 24:={}
instance:Ib 80 52:={}
instance:Aa 82 2:={}
instance:Za 82 (Value.agg #[Value.slice none 0 0,Value.int .i64 0]):={}
instance:Ca 82 2 32:={}
instance:Oa 84:={}
instance:Za 84 (Value.slice none 0 0):={}
instance:Ca 84 1 24:={}
instance:Ib 84 3:={}
instance:Oa 87:={}
instance:Za 87 (Value.slice none 0 0):={}
instance:Ca 87 1 24:={}
instance:Ib 87 9:={}
instance:Aa 92 3:={}
instance:Za 92 (Value.agg #[Value.int .i64 0,Value.int .i64 0,Value.string .empty]):={}
instance:Ca 92 3 32:={}
instance:Aa 94 2:={}
instance:Za 94 (Value.agg #[Value.string .empty,Value.slice none 0 0]):={}
instance:Ca 94 2 40:={}
instance:Oa 95:={}
instance:Za 95 (Value.slice none 0 0):={}
instance:Ca 95 1 24:={}
instance:Ib 95 26:={}
instance:Oa 98:={}
instance:Za 98 (Value.nilFunc):={}
instance:Ca 98 1 8:={}
instance:Oa 99:={}
instance:Za 99 (Value.nilFunc):={}
instance:Ca 99 1 8:={}
instance:Oa 104:={}
instance:Za 104 (Value.pointer none):={}
instance:Ca 104 1 8:={}
instance:Ic 104:=⟨_,(by kernel_rfl:Program.underlying _ _=some (.pointer 106))⟩
instance:Aa 106 1:={}
instance:Za 106 (Value.agg #[Value.slice none 0 0]):={}
instance:Ca 106 1 24:={}
instance:Oa 107:={}
instance:Za 107 (Value.pointer none):={}
instance:Ca 107 1 8:={}
instance:Ic 107:=⟨_,(by kernel_rfl:Program.underlying _ _=some (.pointer 150))⟩
instance:Oa 110:={}
instance:Za 110 (Value.pointer none):={}
instance:Ca 110 1 8:={}
instance:Ic 110:=⟨_,(by kernel_rfl:Program.underlying _ _=some (.pointer 112))⟩
instance:Aa 112 2:={}
instance:Za 112 (Value.agg #[Value.pointer none,Value.int .i64 0]):={}
instance:Ca 112 2 16:={}
instance:Oa 116:={}
instance:Za 116 (Value.nilFunc):={}
instance:Ca 116 1 8:={}
instance:Oa 118:={}
instance:Za 118 (Value.slice none 0 0):={}
instance:Ca 118 1 24:={}
instance:Ib 118 82:={}
instance:Oa 119:={}
instance:Za 119 (Value.nilFunc):={}
instance:Ca 119 1 8:={}
instance XZ:Oa 121:={}
instance:Za 121 (Value.int .u64 0):={}
instance:Ca 121 1 8:={}
instance:Ia 121 .u64:={}
instance:Aa 123 3:={}
instance:Za 123 (Value.agg #[Value.int .u64 0,Value.int .u64 0,Value.int .u64 0]):={}
instance:Ca 123 3 24:={}
instance:Oa 128:={}
instance:Za 128 (Value.nilFunc):={}
instance:Ca 128 1 8:={}
instance:Aa 134 4:={}
instance:Za 134 (Value.agg #[Value.slice none 0 0,Value.slice none 0 0,Value.int .i64 0,Value.int .i64 0]):={}
instance:Ca 134 4 64:={}
instance:Oa 135:={}
instance:Za 135 (Value.nilFunc):={}
instance:Ca 135 1 8:={}
instance:Oa 136:={}
instance:Za 136 (Value.nilFunc):={}
instance:Ca 136 1 8:={}
instance:Oa 140:={}
instance:Za 140 (Value.nilFunc):={}
instance:Ca 140 1 8:={}
instance:Oa 147:={}
instance:Za 147 (Value.nilFunc):={}
instance:Ca 147 1 8:={}
instance:Oa 148:={}
instance:Za 148 (Value.map none):={}
instance:Ca 148 1 8:={}
instance:IsMap prog 148 9 440:={}
instance:Aa 150 4:={}
instance:Za 150 (Value.agg #[Value.bool false,Value.int .i64 0,Value.int .i64 0,Value.map none]):={}
instance:Ca 150 4 32:={}
instance:Oa 152:={}
instance:Za 152 (Value.pointer none):={}
instance:Ca 152 1 8:={}
instance:Ic 152:=⟨_,(by kernel_rfl:Program.underlying _ _=some (.pointer 72))⟩
instance:Oa 153:={}
instance:Za 153 (Value.nilFunc):={}
instance:Ca 153 1 8:={}
instance:Oa 156:={}
instance:Za 156 (Value.nilFunc):={}
instance:Ca 156 1 8:={}
instance:Oa 157:={}
instance:Za 157 (Value.slice none 0 0):={}
instance:Ca 157 1 24:={}
instance:Ib 157 153:={}
instance:Oa 159:={}
instance:Za 159 (Value.pointer none):={}
instance:Ca 159 1 8:={}
instance:Ic 159:=⟨_,(by kernel_rfl:Program.underlying _ _=some (.pointer 220))⟩
instance:Oa 162:={}
instance:Za 162 (Value.slice none 0 0):={}
instance:Ca 162 1 24:={}
instance:Ib 162 164:={}
instance:Aa 164 3:={}
instance:Za 164 (Value.agg #[Value.slice none 0 0,Value.slice none 0 0,Value.int .i64 0]):={}
instance:Ca 164 3 56:={}
instance:Oa 175:={}
instance:Za 175 (Value.int .u64 0):={}
instance:Ca 175 1 8:={}
instance:Ia 175 .u64:={}
instance:Oa 177:={}
instance:Za 177 (Value.pointer none):={}
instance:Ca 177 1 8:={}
instance:Ic 177:=⟨_,(by kernel_rfl:Program.underlying _ _=some (.pointer 134))⟩
instance:Oa 183:={}
instance:Za 183 (Value.nilIface):={}
instance:Ca 183 1 16:={}
instance:Oa 189:={}
instance:Za 189 (Value.map none):={}
instance:Ca 189 1 8:={}
instance:IsMap prog 189 9 3:={}
instance:Oa 190:={}
instance:Za 190 (Value.slice none 0 0):={}
instance:Ca 190 1 24:={}
instance:Ib 190 50:={}
instance:Aa 192 1:={}
instance:Za 192 (Value.agg #[Value.slice none 0 0]):={}
instance:Ca 192 1 24:={}
instance:Oa 201:={}
instance:Za 201 (Value.nilFunc):={}
instance:Ca 201 1 8:={}
instance:Oa 203:={}
instance:Za 203 (Value.pointer none):={}
instance:Ca 203 1 8:={}
instance:Ic 203:=⟨_,(by kernel_rfl:Program.underlying _ _=some (.pointer 66))⟩
instance:Oa 205:={}
instance:Za 205 (Value.pointer none):={}
instance:Ca 205 1 8:={}
instance:Ic 205:=⟨_,(by kernel_rfl:Program.underlying _ _=some (.pointer 64))⟩
instance:Aa 208 1:={}
instance:Za 208 (Value.agg #[Value.slice none 0 0]):={}
instance:Ca 208 1 24:={}
instance:Oa 217:={}
instance:Za 217 (Value.nilFunc):={}
instance:Ca 217 1 8:={}
instance:Oa 218:={}
instance:Za 218 (Value.slice none 0 0):={}
instance:Ca 218 1 24:={}
instance:Ib 218 225:={}
instance:Aa 220 3:={}
instance:Za 220 (Value.agg #[Value.int .i64 0,Value.int .i64 0,Value.slice none 0 0]):={}
instance:Ca 220 3 40:={}
instance:Oa 223:={}
instance:Za 223 (Value.slice none 0 0):={}
instance:Ca 223 1 24:={}
instance:Ib 223 2:={}
instance:Aa 225 3:={}
instance:Za 225 (Value.agg #[Value.slice none 0 0,Value.int .i64 0,Value.slice none 0 0]):={}
instance:Ca 225 3 56:={}
instance:Oa 229:={}
instance:Za 229 (Value.slice none 0 0):={}
instance:Ca 229 1 24:={}
instance:Ib 229 230:={}
instance:Aa 230 2:={}
instance:Za 230 (Value.agg #[Value.int .i64 0,Value.int .i64 0]):={}
instance:Ca 230 2 16:={}
instance:Id 230 2 2:={}
instance:Oa 234:={}
instance:Za 234 (Value.slice none 0 0):={}
instance:Ca 234 1 24:={}
instance:Ib 234 123:={}
instance:Oa 238:={}
instance:Za 238 (Value.int .i64 0):={}
instance:Ca 238 1 8:={}
instance:Ia 238 .i64:={}
instance:Oa 254:={}
instance:Za 254 (Value.nilFunc):={}
instance:Ca 254 1 8:={}
instance:Oa 256:={}
instance:Za 256 (Value.pointer none):={}
instance:Ca 256 1 8:={}
instance:Ic 256:=⟨_,(by kernel_rfl:Program.underlying _ _=some (.pointer 259))⟩
instance:Oa 257:={}
instance:Za 257 (Value.slice none 0 0):={}
instance:Ca 257 1 24:={}
instance:Ib 257 5:={}
instance:Aa 259 2:={}
instance:Za 259 (Value.agg #[Value.pointer none,Value.slice none 0 0]):={}
instance:Ca 259 2 32:={}
instance:Oa 262:={}
instance:Za 262 (Value.pointer none):={}
instance:Ca 262 1 8:={}
instance:Ic 262:=⟨_,(by kernel_rfl:Program.underlying _ _=some (.pointer 192))⟩
instance:Aa 263 6:={}
instance:Za 263 (Value.agg #[Value.int .i64 0,Value.int .i64 0,Value.int .i64 0,Value.int .i64 0,Value.int .i64 0,Value.int .i64 0]):={}
instance:Ca 263 6 48:={}
instance:Id 263 6 3:={}
instance:Oa 266:={}
instance:Za 266 (Value.nilFunc):={}
instance:Ca 266 1 8:={}
instance:Oa 267:={}
instance:Za 267 (Value.pointer none):={}
instance:Ca 267 1 8:={}
instance:Ic 267:=⟨_,(by kernel_rfl:Program.underlying _ _=some (.pointer 70))⟩
instance:Oa 270:={}
instance:Za 270 (Value.pointer none):={}
instance:Ca 270 1 8:={}
instance:Ic 270:=⟨_,(by kernel_rfl:Program.underlying _ _=some (.pointer 208))⟩
instance:Oa 276:={}
instance:Za 276 (Value.nilFunc):={}
instance:Ca 276 1 8:={}
instance:Oa 277:={}
instance:Za 277 (Value.nilFunc):={}
instance:Ca 277 1 8:={}
instance:Oa 278:={}
instance:Za 278 (Value.nilFunc):={}
instance:Ca 278 1 8:={}
instance:Oa 279:={}
instance:Za 279 (Value.nilFunc):={}
instance:Ca 279 1 8:={}
instance:Aa 282 5:={}
instance:Za 282 (Value.agg #[Value.nilFunc,Value.nilFunc,Value.nilFunc,Value.nilFunc,Value.nilFunc]):={}
instance:Ca 282 5 40:={}
instance:Aa 286 6:={}
instance:Za 286 (Value.agg #[Value.int .u64 0,Value.int .u64 0,Value.int .u64 0,Value.int .u64 0,Value.int .u64 0,Value.int .u64 0]):={}
instance:Ca 286 6 48:={}
instance:Id 286 6 121:={}
instance:Oa 299:={}
instance:Za 299 (Value.int .u64 0):={}
instance:Ca 299 1 8:={}
instance:Ia 299 .u64:={}
instance:Oa 303:={}
instance:Za 303 (Value.pointer none):={}
instance:Ca 303 1 8:={}
instance:Ic 303:=⟨_,(by kernel_rfl:Program.underlying _ _=some (.pointer 3))⟩
instance:Oa 307:={}
instance:Za 307 (Value.int .i64 0):={}
instance:Ca 307 1 8:={}
instance:Ia 307 .i64:={}
instance:Oa 310:={}
instance:Za 310 (Value.pointer none):={}
instance:Ca 310 1 8:={}
instance:Ic 310:=⟨_,(by kernel_rfl:Program.underlying _ _=some (.pointer 364))⟩
instance:Aa 316 256:={}
instance:Za 316 (Value.agg (List.replicate 256 (Value.bool false)).toArray):={}
instance:Ca 316 256 256:={}
instance:Id 316 256 4:={}
instance:Oa 320:={}
instance:Za 320 (Value.pointer none):={}
instance:Ca 320 1 8:={}
instance:Ic 320:=⟨_,(by kernel_rfl:Program.underlying _ _=some (.pointer 316))⟩
instance:Oa 327:={}
instance:Za 327 (Value.pointer none):={}
instance:Ca 327 1 8:={}
instance:Ic 327:=⟨_,(by kernel_rfl:Program.underlying _ _=some (.pointer 5))⟩
instance:Oa 332:={}
instance:Za 332 (Value.pointer none):={}
instance:Ca 332 1 8:={}
instance:Ic 332:=⟨_,(by kernel_rfl:Program.underlying _ _=some (.pointer 68))⟩
instance:Oa 334:={}
instance:Za 334 (Value.pointer none):={}
instance:Ca 334 1 8:={}
instance:Ic 334:=⟨_,(by kernel_rfl:Program.underlying _ _=some (.pointer 21))⟩
instance:Oa 336:={}
instance:Za 336 (Value.pointer none):={}
instance:Ca 336 1 8:={}
instance:Oa 341:={}
instance:Za 341 (Value.nilFunc):={}
instance:Ca 341 1 8:={}
instance:Aa 342 30:={}
instance:Za 342 (Value.agg (List.replicate 30 (Value.nilFunc)).toArray):={}
instance:Ca 342 30 240:={}
instance:Id 342 6 282:={}
instance:Oa 348:={}
instance:Za 348 (Value.nilFunc):={}
instance:Ca 348 1 8:={}
instance:Oa 351:={}
instance:Za 351 (Value.pointer none):={}
instance:Ca 351 1 8:={}
instance:Ic 351:=⟨_,(by kernel_rfl:Program.underlying _ _=some (.pointer 299))⟩
instance:Aa 364 3:={}
instance:Za 364 (Value.agg #[Value.string .empty,Value.string .empty,Value.nilIface]):={}
instance:Ca 364 3 48:={}
instance:Aa 366 24:={}
instance:Za 366 (Value.agg (List.replicate 24 (Value.int .u8 0)).toArray):={}
instance:Ca 366 24 24:={}
instance:Id 366 24 5:={}
instance:Oa 376:={}
instance:Za 376 (Value.map none):={}
instance:Ca 376 1 8:={}
instance:IsMap prog 376 21 5:={}
instance:Aa 389 8:={}
instance:Za 389 (Value.agg (List.replicate 8 (Value.int .u8 0)).toArray):={}
instance:Ca 389 8 8:={}
instance:Id 389 8 5:={}
instance:Oa 394:={}
instance:Za 394 (Value.pointer none):={}
instance:Ca 394 1 8:={}
instance:Ic 394:=⟨_,(by kernel_rfl:Program.underlying _ _=some (.pointer 396))⟩
instance:Aa 396 3:={}
instance:Za 396 (Value.agg #[Value.string .empty,Value.int .i64 0,Value.int .i64 0]):={}
instance:Ca 396 3 32:={}
instance:Oa 400:={}
instance:Za 400 (Value.pointer none):={}
instance:Ca 400 1 8:={}
instance:Ic 400:=⟨_,(by kernel_rfl:Program.underlying _ _=some (.pointer 402))⟩
instance:Aa 402 1:={}
instance:Za 402 (Value.agg #[Value.string .empty]):={}
instance:Ca 402 1 16:={}
instance:Aa 404 20:={}
instance:Za 404 (Value.agg (List.replicate 20 (Value.int .u64 0)).toArray):={}
instance:Ca 404 20 160:={}
instance:Id 404 20 121:={}
instance:Aa 405 65:={}
instance:Za 405 (Value.agg (List.replicate 65 (Value.int .u8 0)).toArray):={}
instance:Ca 405 65 65:={}
instance:Id 405 65 5:={}
instance:Aa 409 256:={}
instance:Za 409 (Value.agg (List.replicate 256 (Value.int .u8 0)).toArray):={}
instance:Ca 409 256 256:={}
instance:Id 409 256 5:={}
instance:Aa 411 2:={}
instance:Za 411 (Value.agg #[Value.int .u8 0,Value.int .u8 0]):={}
instance:Ca 411 2 2:={}
instance:Aa 412 32:={}
instance:Za 412 (Value.agg (List.replicate 32 (Value.int .u8 0)).toArray):={}
instance:Ca 412 32 32:={}
instance:Id 412 16 411:={}
instance:Aa 415 32:={}
instance:Za 415 (Value.agg (List.replicate 32 (Value.int .u8 0)).toArray):={}
instance:Ca 415 32 32:={}
instance:Id 415 32 5:={}
instance:Aa 416 64:={}
instance:Za 416 (Value.agg (List.replicate 64 (Value.int .u8 0)).toArray):={}
instance:Ca 416 64 64:={}
instance:Id 416 64 5:={}
instance:Oa 429:={}
instance:Za 429 (Value.slice none 0 0):={}
instance:Ca 429 1 24:={}
instance:Ib 429 430:={}
instance:Aa 430 3:={}
instance:Za 430 (Value.agg #[Value.slice none 0 0,Value.slice none 0 0,Value.int .i64 0]):={}
instance:Ca 430 3 56:={}
instance:Oa 433:={}
instance:Za 433 (Value.nilFunc):={}
instance:Ca 433 1 8:={}
instance:Oa 434:={}
instance:Za 434 (Value.map none):={}
instance:Ca 434 1 8:={}
instance:IsMap prog 434 9 436:={}
instance:Oa 436:={}
instance:Za 436 (Value.pointer none):={}
instance:Ca 436 1 8:={}
instance:Ic 436:=⟨_,(by kernel_rfl:Program.underlying _ _=some (.pointer 438))⟩
instance:Aa 438 2:={}
instance:Za 438 (Value.agg #[Value.slice none 0 0,Value.slice none 0 0]):={}
instance:Ca 438 2 48:={}
instance:Aa 440 2:={}
instance:Za 440 (Value.agg #[Value.slice none 0 0,Value.slice none 0 0]):={}
instance:Ca 440 2 48:={}
instance:Oa 443:={}
instance:Za 443 (Value.nilFunc):={}
instance:Ca 443 1 8:={}
instance:Oa 444:={}
instance:Za 444 (Value.nilFunc):={}
instance:Ca 444 1 8:={}
instance:Oa 449:={}
instance:Za 449 (Value.nilFunc):={}
instance:Ca 449 1 8:={}
instance:Oa 452:={}
instance:Za 452 (Value.nilFunc):={}
instance:Ca 452 1 8:={}
instance:Ba 26 ((Value.slice none 0 0)::(Value.slice none 0 0)::(Value.int .i64 0)::[]) [(0,1),(1,1),(2,1)]:=⟨λ_=>kR,_,underlying26,λ_=>kR⟩
instance:Ba 48 ((Value.slice none 0 0)::(Value.slice none 0 0)::(Value.slice none 0 0)::(Value.int .i64 0)::(Value.slice none 0 0)::(Value.slice none 0 0)::[]) [(0,1),(1,3),(4,1),(5,1)]:=⟨λ_=>kR,_,underlying48,λ_=>kR⟩
instance:Ba 50 ((Value.int .i64 0)::(Value.bool false)::[]) [(0,1),(1,1)]:=⟨λ_=>kR,_,underlying50,λ_=>kR⟩
instance:Ba 52 ((Value.bool false)::(Value.int .i64 0)::(Value.string .empty)::[]) [(0,1),(1,1),(2,1)]:=⟨λ_=>kR,_,underlying52,λ_=>kR⟩
instance:Ba 54 ((Value.int .i64 0)::(Value.string .empty)::(Value.int .i64 0)::(Value.bool false)::(Value.bool false)::(Value.int .i64 0)::(Value.string .empty)::[]) [(0,1),(1,1),(2,2),(4,3)]:=⟨λ_=>kR,_,underlying54,λ_=>kR⟩
instance:Ba 75 ((Value.slice none 0 0)::(Value.slice none 0 0)::(Value.slice none 0 0)::(Value.int .i64 0)::(Value.slice none 0 0)::(Value.nilIface)::(Value.int .u32 0)::(Value.int .i32 0)::(Value.int .u32 0)::(Value.nilFunc)::[]) [(0,1),(1,3),(4,1),(5,1),(6,3),(9,1)]:=⟨λ_=>kR,_,underlying75,λ_=>kR⟩
instance:Ba 82 ((Value.slice none 0 0)::(Value.int .i64 0)::[]) [(0,1),(1,1)]:=⟨λ_=>kR,_,underlying82,λ_=>kR⟩
instance:Ba 92 ((Value.int .i64 0)::(Value.int .i64 0)::(Value.string .empty)::[]) [(0,1),(1,1),(2,1)]:=⟨λ_=>kR,_,underlying92,λ_=>kR⟩
instance:Ba 94 ((Value.string .empty)::(Value.slice none 0 0)::[]) [(0,1),(1,1)]:=⟨λ_=>kR,_,underlying94,λ_=>kR⟩
instance:Ba 106 ((Value.slice none 0 0)::[]) [(0,1)]:=⟨λ_=>kR,_,underlying106,λ_=>kR⟩
instance:Ba 112 ((Value.pointer none)::(Value.int .i64 0)::[]) [(0,1),(1,1)]:=⟨λ_=>kR,_,underlying112,λ_=>kR⟩
instance:Ba 123 ((Value.int .u64 0)::(Value.int .u64 0)::(Value.int .u64 0)::[]) [(0,1),(1,1),(2,1)]:=⟨λ_=>kR,_,underlying123,λ_=>kR⟩
instance:Ba 150 ((Value.bool false)::(Value.int .i64 0)::(Value.int .i64 0)::(Value.map none)::[]) [(0,1),(1,1),(2,1),(3,1)]:=⟨λ_=>kR,_,underlying150,λ_=>kR⟩
instance:Ba 164 ((Value.slice none 0 0)::(Value.slice none 0 0)::(Value.int .i64 0)::[]) [(0,1),(1,1),(2,1)]:=⟨λ_=>kR,_,underlying164,λ_=>kR⟩
instance:Ba 220 ((Value.int .i64 0)::(Value.int .i64 0)::(Value.slice none 0 0)::[]) [(0,1),(1,1),(2,1)]:=⟨λ_=>kR,_,underlying220,λ_=>kR⟩
instance:Ba 225 ((Value.slice none 0 0)::(Value.int .i64 0)::(Value.slice none 0 0)::[]) [(0,1),(1,1),(2,1)]:=⟨λ_=>kR,_,underlying225,λ_=>kR⟩
instance:Ba 282 ((Value.nilFunc)::(Value.nilFunc)::(Value.nilFunc)::(Value.nilFunc)::(Value.nilFunc)::[]) [(0,1),(1,1),(2,1),(3,1),(4,1)]:=⟨λ_=>kR,_,underlying282,λ_=>kR⟩
instance:Ba 364 ((Value.string .empty)::(Value.string .empty)::(Value.nilIface)::[]) [(0,1),(1,1),(2,1)]:=⟨λ_=>kR,_,underlying364,λ_=>kR⟩
instance:Ba 396 ((Value.string .empty)::(Value.int .i64 0)::(Value.int .i64 0)::[]) [(0,1),(1,1),(2,1)]:=⟨λ_=>kR,_,underlying396,λ_=>kR⟩
instance:Ba 402 ((Value.string .empty)::[]) [(0,1)]:=⟨λ_=>kR,_,underlying402,λ_=>kR⟩
instance:Ba 411 ((Value.int .u8 0)::(Value.int .u8 0)::[]) [(0,1),(1,1)]:=⟨λ_=>kR,_,underlying411,λ_=>kR⟩
instance:Ba 430 ((Value.slice none 0 0)::(Value.slice none 0 0)::(Value.int .i64 0)::[]) [(0,1),(1,1),(2,1)]:=⟨λ_=>kR,_,underlying430,λ_=>kR⟩
instance:Ba 438 ((Value.slice none 0 0)::(Value.slice none 0 0)::[]) [(0,1),(1,1)]:=⟨λ_=>kR,_,underlying438,λ_=>kR⟩
instance:Ba 440 ((Value.slice none 0 0)::(Value.slice none 0 0)::[]) [(0,1),(1,1)]:=⟨λ_=>kR,_,underlying440,λ_=>kR⟩
instance:Fa 26 0 0:={}
instance:Fa 26 1 1:={}
instance:Fa 26 2 2:={}
instance:Fa 48 0 0:={}
instance:Fa 48 1 1:={}
instance:Fa 48 2 4:={}
instance:Fa 48 3 5:={}
instance:Fa 50 0 0:={}
instance:Fa 50 1 1:={}
instance:Fa 52 0 0:={}
instance:Fa 52 1 1:={}
instance:Fa 52 2 2:={}
instance:Fa 54 0 0:={}
instance:Fa 54 2 2:={}
instance:Fa 66 1 0:={}
instance:Fa 68 0 0:={}
instance:Fa 68 1 1:={}
instance:Fa 70 1 0:={}
instance:Fa 72 1 0:={}
instance:Fa 72 2 1:={}
instance:Fa 75 0 0:={}
instance:Fa 75 1 1:={}
instance:Fa 75 2 4:={}
instance:Fa 75 3 5:={}
instance:Fa 75 4 6:={}
instance:Fa 75 5 9:={}
instance:Fa 82 0 0:={}
instance:Fa 82 1 1:={}
instance:Fa 92 0 0:={}
instance:Fa 92 1 1:={}
instance:Fa 92 2 2:={}
instance:Fa 94 0 0:={}
instance:Fa 94 1 1:={}
instance:Fa 106 0 0:={}
instance:Fa 112 0 0:={}
instance:Fa 112 1 1:={}
instance:Fa 123 0 0:={}
instance:Fa 123 1 1:={}
instance:Fa 123 2 2:={}
instance:Fa 134 0 0:={}
instance:Fa 134 1 3:={}
instance:Fa 150 0 0:={}
instance:Fa 150 1 1:={}
instance:Fa 150 2 2:={}
instance:Fa 150 3 3:={}
instance:Fa 164 0 0:={}
instance:Fa 164 1 1:={}
instance:Fa 164 2 2:={}
instance:Fa 192 0 0:={}
instance:Fa 208 0 0:={}
instance:Fa 220 0 0:={}
instance:Fa 220 1 1:={}
instance:Fa 220 2 2:={}
instance:Fa 225 0 0:={}
instance:Fa 225 1 1:={}
instance:Fa 225 2 2:={}
instance:Fa 259 0 0:={}
instance:Fa 259 1 1:={}
instance:Fa 396 0 0:={}
instance:Fa 396 1 1:={}
instance:Fa 396 2 2:={}
instance:Fa 411 0 0:={}
instance:Fa 411 1 1:={}
instance:Fa 430 0 0:={}
instance:Fa 430 1 1:={}
instance:Fa 430 2 2:={}
instance:Fa 438 0 0:={}
instance:Fa 438 1 1:={}
instance:Fa 440 0 0:={}
instance:Fa 440 1 1:={}
instance:Bg prog 282 0 0 277:=⟨_,underlying282,rfl⟩
instance:Bg prog 282 1 1 278:=⟨_,underlying282,rfl⟩
instance:Bg prog 282 2 2 279:=⟨_,underlying282,rfl⟩
instance:Bg prog 440 1 1 223:=⟨_,underlying440,rfl⟩
instance:Ea 3:={}
instance:Ea 4:={}
instance:Ea 5:={}
instance:Ea 6:={}
instance:Ea 7:={}
instance:Ea 8:={}
instance:Ea 9:={}
instance:Ea 10:={}
instance:Ea 12:={}
instance:Ea 13:={}
instance:Ea 14:={}
instance:Ea 15:={}
instance:Ea 16:={}
instance:Ea 17:={}
instance:Ea 18:={}
instance:Ea 19:={}
instance:Ea 20:={}
instance:Ea 21:={}
instance:Ea 22:={}
instance:Ea 23:={}
instance:Ea 24:={}
instance:Ea 25:={}
instance:Ea 26:={}
instance:Ea 27:={}
instance:Ea 28:={}
instance:Ea 29:={}
instance:Ea 30:={}
instance:Ea 31:={}
instance:Ea 32:={}
instance:Ea 33:={}
instance:Ea 34:={}
instance:Ea 35:={}
instance:Ea 36:={}
instance:Ea 37:={}
instance:Ea 38:={}
instance:Ea 39:={}
instance:Ea 40:={}
instance:Ea 41:={}
instance:Ea 42:={}
instance:Ea 43:={}
instance:Ea 44:={}
instance:Ea 45:={}
instance:Ea 46:={}
instance:Ea 47:={}
instance:Ea 48:={}
instance:Ea 49:={}
instance:Ea 50:={}
instance:Ea 51:={}
instance:Ea 52:={}
instance:Ea 53:={}
instance:Ea 54:={}
instance:Ea 55:={}
instance:Ea 56:={}
instance:Ea 57:={}
instance:Ea 58:={}
instance:Ea 59:={}
instance:Ea 60:={}
instance:Ea 61:={}
instance:Ea 62:={}
instance:Ea 63:={}
instance:Ea 64:={}
instance:Ea 65:={}
instance:Ea 66:={}
instance:Ea 67:={}
instance:Ea 68:={}
instance:Ea 69:={}
instance:Ea 70:={}
instance:Ea 71:={}
instance:Ea 72:={}
instance:Ea 73:={}
instance:Ea 74:={}
instance:Ea 75:={}
instance:Ea 76:={}
instance:Ea 77:={}
instance:Ea 78:={}
instance:Ea 79:={}
instance:Ea 80:={}
instance:Ea 81:={}
instance:Ea 82:={}
instance:Ea 83:={}
instance:Ea 84:={}
instance:Ea 85:={}
instance:Ea 86:={}
instance:Ea 87:={}
instance:Ea 88:={}
instance:Ea 89:={}
instance:Ea 90:={}
instance:Ea 91:={}
instance:Ea 92:={}
instance:Ea 93:={}
instance:Ea 94:={}
instance:Ea 95:={}
instance:Ea 96:={}
instance:Ea 97:={}
instance:Ea 98:={}
instance:Ea 99:={}
instance:Ea 100:={}
instance:Ea 101:={}
instance:Ea 102:={}
instance:Ea 103:={}
instance:Ea 104:={}
instance:Ea 105:={}
instance:Ea 106:={}
instance:Ea 107:={}
instance:Ea 108:={}
instance:Ea 110:={}
instance:Ea 111:={}
instance:Ea 112:={}
instance:Ea 114:={}
instance:Ea 115:={}
instance:Ea 116:={}
instance:Ea 117:={}
instance:Ea 118:={}
instance:Ea 119:={}
instance:Ea 120:={}
instance:Ea 121:={}
instance:Ea 122:={}
instance:Ea 123:={}
instance:Ea 124:={}
instance:Ea 125:={}
instance:Ea 126:={}
instance:Ea 127:={}
instance:Ea 128:={}
instance:Ea 129:={}
instance:Ea 130:={}
instance:Ea 131:={}
instance:Ea 132:={}
instance:Ea 133:={}
instance:Ea 135:={}
instance:Ea 136:={}
instance:Ea 137:={}
instance:Ea 138:={}
instance:Ea 139:={}
instance:Ea 140:={}
instance:Ea 141:={}
instance:Ea 142:={}
instance:Ea 143:={}
instance:Ea 144:={}
instance:Ea 145:={}
instance:Ea 146:={}
instance:Ea 147:={}
instance:Ea 148:={}
instance:Ea 149:={}
instance:Ea 150:={}
instance:Ea 151:={}
instance:Ea 152:={}
instance:Ea 153:={}
instance:Ea 154:={}
instance:Ea 155:={}
instance:Ea 156:={}
instance:Ea 172:={}
instance:Ea 176:={}
instance:Ea 177:={}
instance:Ea 178:={}
instance:Ea 179:={}
instance:Ea 181:={}
instance:Ea 182:={}
instance:Ea 183:={}
instance:Ea 184:={}
instance:Ea 185:={}
instance:Ea 186:={}
instance:Ea 187:={}
instance:Ea 188:={}
instance:Ea 189:={}
instance:Ea 190:={}
instance:Ea 191:={}
instance:Ea 192:={}
instance:Ea 193:={}
instance:Ea 194:={}
instance:Ea 196:={}
instance:Ea 197:={}
instance:Ea 198:={}
instance:Ea 199:={}
instance:Ea 200:={}
instance:Ea 201:={}
instance:Ea 202:={}
instance:Ea 203:={}
instance:Ea 204:={}
instance:Ea 205:={}
instance:Ea 206:={}
instance:Ea 207:={}
instance:Ea 208:={}
instance:Ea 209:={}
instance:Ea 210:={}
instance:Ea 211:={}
instance:Ea 212:={}
instance:Ea 213:={}
instance:Ea 214:={}
instance:Ea 215:={}
instance:Ea 216:={}
instance:Ea 217:={}
instance:Ea 218:={}
instance:Ea 219:={}
instance:Ea 221:={}
instance:Ea 222:={}
instance:Ea 227:={}
instance:Ea 228:={}
instance:Ea 229:={}
instance:Ea 238:={}
instance:Ea 239:={}
instance:Ea 240:={}
instance:Ea 244:={}
instance:Ea 245:={}
instance:Ea 246:={}
instance:Ea 247:={}
instance:Ea 248:={}
instance:Ea 249:={}
instance:Ea 250:={}
instance:Ea 252:={}
instance:Ea 253:={}
instance:Ea 254:={}
instance:Ea 263:={}
instance:Ea 264:={}
instance:Ea 265:={}
instance:Ea 266:={}
instance:Ea 267:={}
instance:Ea 268:={}
instance:Ea 277:={}
instance:Ea 278:={}
instance:Ea 283:={}
instance:Ea 284:={}
instance:Ea 285:={}
instance:Ea 286:={}
instance:Ea 287:={}
instance:Ea 288:={}
instance:Ea 289:={}
instance:Ea 290:={}
instance:Ea 291:={}
instance:Ea 292:={}
instance:Ea 293:={}
instance:Ea 295:={}
instance:Ea 296:={}
instance:Ea 297:={}
instance:Ea 304:={}
instance:Ea 305:={}
instance:Ea 306:={}
instance:Ea 307:={}
instance:Ea 308:={}
instance:Ea 309:={}
instance:Ea 310:={}
instance:Ea 318:={}
instance:Ea 319:={}
instance:Ea 324:={}
instance:Ea 325:={}
instance:Ea 326:={}
instance:Ea 327:={}
instance:Ea 330:={}
instance:Ea 331:={}
instance:Ea 339:={}
instance:Ea 340:={}
instance:Ea 342:={}
instance:Ea 344:={}
instance:Ea 346:={}
instance:Ea 348:={}
instance:Ea 349:={}
instance:Ea 350:={}
instance:Ea 351:={}
instance:Ea 361:={}
instance:Ea 364:={}
instance:Ea 365:={}
instance:Ea 366:={}
instance:Ea 367:={}
instance:Ea 371:={}
instance:Ea 372:={}
instance:Ea 388:={}
instance:Ea 389:={}
instance:Ea 390:={}
instance:Ea 391:={}
instance:Ea 392:={}
instance:Ea 393:={}
instance:Ea 394:={}
instance:Ea 395:={}
instance:Ea 396:={}
instance:Ea 397:={}
instance:Ea 398:={}
instance:Ea 399:={}
instance:Ea 400:={}
instance:Ea 401:={}
instance:Ea 402:={}
instance:Ea 403:={}
instance:Ea 404:={}
instance:Ea 405:={}
instance:Ea 406:={}
instance:Ea 407:={}
instance:Ea 408:={}
instance:Ea 409:={}
instance:Ea 410:={}
instance:Ea 411:={}
instance:Ea 412:={}
instance:Ea 413:={}
end Go.Proofs.YtkfpleidaoaonaaGreatDoor
namespace Go.Mw
open Go.RowKit
section
variable {P:Program} {r:Option Nat} {n:Nat} {ops:AO} {Q:Post} {rest:LO} {σ:St} {w w0:Wd} {S:NP} {rs:List HP} {ty:Td} {pos:String} {after:Array Edge}
def Q8 (P:Program) (l:Nat) (xs:LV) (w:Wd) (R:Bool->Wd->Prop):Prop:=
 ∃fn tmps assign body,(Instr.yield l xs.toArray).run P w=.ok (.round l fn tmps assign body) w/\RoundIn (fen none) 0 P l fn tmps assign body w (Ret λv w'=>∃b,v=.bool b/\R b w')
theorem Bl {d l:Nat} {y:Od} {xs:List Od} {ats:Array Td} {vals:LV} {R:Bool->Wd->Prop} (hy:evF σ y=.func (.yield l) #[] #[]) (hc:Q8 P l vals w R)
    (hv:xs.map (evF σ)=vals) (hd:Nat.blt d n=true) (h: ∀b w',R b w'->FL P r n ops Q rest (upd σ d (.bool b)) w'):
    FL P r n ops Q (⟨some d,.call {callee:=.value y,args:=xs.toArray,argTypes:=ats},ty,pos,after,none⟩::rest) σ w:=λa ha=>
  wpListIn_plain rfl λK hK=>by
    obtain⟨fn,tmps,assign,body,iw,F6⟩:=hc;refine⟨λ_ _=>trivial,?_⟩;rw[Oper.semAt_eq _ _ _ (λ_ h=>by cases h),ha.eval]
    have e:(execOp (evF σ) ⟨some d,.call {callee:=.value y,args:=xs.toArray,argTypes:=ats},ty,pos,after,none⟩).run P w=.ok (.round l fn tmps assign body) w:=by
      simp[execOp,resolve,hy,Deferred.ofValue,invoke,hv,iw]
    rw[e,Oper.uponIn_round];refine⟨(λh=>by cases h),RoundIn.mono (F:=fen r) F6 λen w'' hr=>?_⟩;cases en with
    | returned v=>obtain⟨b,rfl,hR⟩:=hr;exact hK _ _ (h b w'' hR _ (ha.put (zaw hd) _))
    | _=>exact hr.elim

def X0 (K Kr:Wd->Prop):Post:=λe _ w=>match e with
 | .normal=>K w
 | .ret=>Kr w
 | _=>False
theorem Ck {K Kr:Wd->Prop} (h:K w):X0 K Kr .normal σ w:=h
theorem yE {K Kr:Wd->Prop} (h:Kr w):X0 K Kr .ret σ w:=h

theorem ae3 {l:List ResultVar} {R:Value->Wd->Prop} {vs:LV} {D:Nat} {put:HP->List HP} (H:Sep w0 S rs w) (hat:At rs (Mw.obj D (.deferred (some []))) put) (hR: ∀w',Sep w0 S (put (Mw.obj D (.deferred none))) w'->R (eP vs) w')
    (h:lS σ l=some vs:=by simp only[lS,zda,upd_same,upd_ne,ne_eq,Nat.reduceEqDiff,not_false_eq_true];rfl) (hd:σ.ds=[{target:=.collected D,args:= #[]}]:=by exact rfl):Qfn l R .ret σ w:=
  Um (l:=l) (R:=R) H hat hR h hd
end
section
variable {P:Program} {r:Option Nat} {n:Nat} {ops:AO} {Q:Post} {lv:List Bool} {pd pd':LNB} {rest:LO} {σ:St} {w w' w0:Wd} {S F:NP} {rs:List HP} {put:HP->List HP} {op:Op} {ty:Td} {pos:String} {after:Array Edge} {guard:Option (Nat×Bool)}
theorem Gives.alq {ρ:Od->Value} {x y:Od} {t e:Td} [hs:dh P t e] {bytes:Nat} [hc:Cells P e 1 bytes] {z:Value} [hz:Zero P e z] {k:Nat} (hx:ρ x=.int .i64 k) (hy:ρ y=.int .i64 k) (hzc:z.cells= #[z]) (hb:bytes*k<=281474976710656) (hk:k<=maxLen):
    Gives P ρ (.makeSlice t x y) ty w (.slice (some ⟨w.heap.size,0,none⟩) k k) (w.alloc (.cells (List.replicate k z).toArray e)):=λ_ _ _ _=>by
  obtain⟨i,hi,p9⟩:=zav.1 hc.size;simp only[Prod.mk.injEq]at p9
  have uf:i.zero=some z:=by
    have:=hz.run w;simp[zeroValue,typeInfo,hi]at this;cases hq:i.zero with
    | none=>simp[hq]at this
    | some u=>simp[hq]at this;rw[this]
  have iw:=run_make (P:=P) w t e i z hs.und hi uf .i64 .i64 (k:Int) (k:Int) oM oM (by rw[p9.2,<-Int.natCast_mul];generalize bytes*k=q at hb ⊢;omega) (by unfold maxLen at hk;omega)
  have hcells:madeCells z.cells ((k:Int).toNat*i.size)=(List.replicate k z).toArray:=by
    rw[hzc,p9.1];have:=toList_madeCells_one z (k*1);simp only[zdo];rw[Nat.mul_one]at this ⊢;rw[<-this]
  rw[hcells]at iw;simp only[execOp,hx,hy,zbh,iw,zai,zbm,zdo]
theorem ae4 {d:Nat} {x y:Od} {t e:Td} [hs:dh P t e] {bytes:Nat} [hc:Cells P e 1 bytes] {z:Value} [hz:Zero P e z] {k:Nat} (H:Sep w0 S rs w) (hk:k<=maxLen) (hb:bytes*k<=281474976710656) (hx:evF σ x=.int .i64 k:=by exact rfl) (hy:evF σ y=.int .i64 k:=by exact rfl) (hzc:z.cells= #[z]:=by exact rfl) (hd:Nat.blt d n=true:=by exact rfl)
    (h: ∀b w',Sep w0 S (blk b (List.replicate k z) e::rs) w'->Kept noB w w'->FL P r n ops Q rest (upd σ d (.slice (some ⟨b,0,none⟩) k k)) w'):
    FL P r n ops Q (⟨some d,.makeSlice t x y,ty,pos,after,none⟩::rest) σ w:=
  dG (Gives.alq hx hy hzc hb hk) hd (h _ _ (H.alloc _) (Kept.alloc _ _))
theorem Gives.conv {ρ:Od->Value} {x:Od} {s t:Td} {k j:IntKind} [hs:lZ P s j] [ht:lZ P t k] {a:Int} (hx:ρ x=.int j a):Gives P ρ (.convert s t x) ty w (.int k (k.wrap a)) w:=
 Gives.akN (by rw[hs.und];rfl) ht.und hx
theorem Gives.aio {ρ:Od->Value} {a:Addr} {x:Od} {T:Td} [h1:OneCell P T] {v:Value} (hx:ρ x=.pointer (some a)) (hc:w.cell? a=some v):Gives P ρ (.load T x) ty w v w:=λ_ _ _ _=>by
 simp[execOp,hx,Instr.loadAt,Instr.sureAddr,loadVar,h1.agg,hc]
theorem Gives.ajy {ρ:Od->Value} {k:Nat} {a:Addr} {x:Od} {T:Td} [h1:Agg P T k] {us:LV} (hx:ρ x=.pointer (some a)) (hc: ∀j u,us[j]? =some u->w.cell? (a.add j)=some u) (hk:us.length=k):Gives P ρ (.load T x) ty w (.agg us.toArray) w:=λ_ _ _ _=>by
 have:=run_loadCells_list (P:=P) w a us hc;rw[hk]at this;simp[execOp,hx,Instr.loadAt,Instr.sureAddr,loadVar,h1.agg,h1.size,this]
end
def Zh:Op->Bool
 | .buildSlice .. =>true
 | .makeSlice .. =>true
 | _=>false
def ahn (ops:AO) (i:Nat):Bool:=match ops[i]? with
 | some o=>Zh o.op
 | none=>false
def aho (ops:AO) (M:Nat):List Bool:=(List.range ops.size).map λi=>Nat.blt i M

section
variable (P:Program) (r:Option Nat) (n:Nat) (ops:AO) (Q:Post) (M:Nat) (w0:Wd) (S:NP) (rs:List HP) (β:Nat->Nat)
end

section
variable {P:Program} {r:Option Nat} {n:Nat} {ops:AO} {Q:Post} {M:Nat} {w0 w:Wd} {S:NP} {rs ps:List HP} {β:Nat->Nat} {σ:St} {k i:Nat} {op:Op} {ty:Td} {pos:String} {after:Array Edge} {guard:Option (Nat×Bool)}
def stA (ops:AO) (v:Nat->Value) (σ:St):Nat->St
 | 0=>σ
 | j+1=>qC (stA ops v σ j) (jd ops j) (v j)
def pcs (ops:AO) (β:Nat->Nat) (ob:Nat->Obj) (L:Nat->Bool):Nat->List HP
 | 0=>[]
 | j+1=>if(ahn ops j&&L j)=true then obj (β j) (ob j)::pcs ops β ob L j else pcs ops β ob L j
theorem OX {ob ob':Nat->Obj} {L L':Nat->Bool}: ∀{j:Nat},(∀x,x<j->ob x=ob' x/\(ahn ops x&&L x)=(ahn ops x&&L' x))->pcs ops β ob L j=pcs ops β ob' L' j
 | 0,_=>rfl
 | j+1,h=>by
  show(if _ then _ else _)=(if _ then _ else _)
  rw[OX λx hx=>h x (Nat.lt_succ_of_lt hx),(h j (zfb j)).1,(h j (zfb j)).2]
theorem ae5 {v:Nat->Value}: ∀{j:Nat},(stA ops v σ j).ds=σ.ds
 | 0=>rfl
 | j+1=>by show(qC (stA ops v σ j) _ _).ds=_;rw[Dt];exact ae5
theorem OY {v:Nat->Value} {x:Nat}: ∀{j:Nat},(∀i,i<j->jd ops i≠some x)->stA ops v σ j x=σ x
 | 0,_=>rfl
 | j+1,h=>by
  show qC (stA ops v σ j) _ _ x=_
  rw[iJ (h j (zfb j))];exact OY λi hi=>h i (Nat.lt_succ_of_lt hi)
theorem ae6 {v:Nat->Value} {d i:Nat} (hd:jd ops i=some d): ∀{j:Nat},i<j->(∀k,k<j->k≠i->jd ops k≠some d)->stA ops v σ j d=v i
 | 0,h,_=>zap h (zej _)
 | j+1,h,iC=>by
  show qC (stA ops v σ j) _ _ d=_
  by_cases hji:j=i
  .subst hji;rw[hd];exact upd_same _ _ _
  rw[iJ (iC j (zfb j) hji)];exact ae6 hd (Nat.lt_of_le_of_ne (Nat.le_of_lt_succ h) λe=>hji e.symm) λk hk=>iC k (Nat.lt_succ_of_lt hk)

def StepA (P:Program) (ops:AO) (w0:Wd) (S:NP) (rs:List HP) (β:Nat->Nat) (i:Nat) (σ:St) (v:Value) (ob:Obj):Prop:=
 ∃o,ops[i]? =some o/\if Zh o.op=true then ∀w,Sep w0 S rs w->w.heap.size=β i->(execOp (evF σ) o).run P w=.ok (.value v) (w.alloc ob)else ∀w,Sep w0 S rs w->(execOp (evF σ) o).run P w=.ok (.value v) w

def Fits (ops:AO) (β:Nat->Nat):List Nat->NP
 | [],_=>True
 | i::s,N=>if ahn ops i=true then β i=N/\Fits ops β s (N+1)else Fits ops β s N
structure CkA (ops:AO) (M:Nat):Prop where
 le:M<=ops.size
 ug: ∀i,i<M->∃o d,ops[i]? =some o/\o.guard=none/\o.dst=some d
 pr: ∀i,i<M->∀e∈l6 ops i,e<i
 lk: ∀i,i<M->∀k,k<M->∀d,jd ops k=some d->d∈looks ops i->k∈l6 ops i
 ds: ∀i,i<M->∀k,k<M->i≠k->∀d,jd ops k=some d->jd ops i≠some d
 ab: ∀j,M<=j->j<ops.size->∀i,i<M->i∈above ops j
structure alr (P:Program) (r:Option Nat) (n:Nat) (ops:AO) (Q:Post) (M:Nat) (w0:Wd) (S:NP) (rs:List HP) (σ:St) (lr:Array Bool) (a:Act) (w:Wd):Prop where
 sz:lr.size=ops.size
 cl: ∀i,lr.getD i false=true->∀e∈l6 ops i,lr.getD e false=true
 hi: ∀j,M<=j->j<ops.size->lr.getD j true=false
 fut: ∀s:List Nat,s.Nodup->(∀i,i∈s↔i<M/\lr.getD i true=false)->∃β,Fits ops β s w.heap.size/\∃v ob,
  (∀j,j<M->StepA P ops w0 S rs β j (stA ops v σ j) (v j) (ob j))/\(∀w',Sep w0 S (pcs ops β ob (λ_=>true) M++rs) w'->FG P r n ops Q (aho ops M) [] (stA ops v σ M) w')/\
  (∃σr,Rep n σr a/\σr.ds=σ.ds/\(∀i,i<M->lr.getD i true=true->∀d,jd ops i=some d->σr d=v i)/\∀x,(∀i,i<M->lr.getD i true=true->jd ops i≠some x)->σr x=σ x)/\
  Sep w0 S (pcs ops β ob (λi=>lr.getD i true) M++rs) w

theorem abK {i:Nat} (h:i<ops.size):(aho ops M).getD i true=Nat.blt i M:=by
 simp[aho,zak,h]
theorem alr.fin (d9:CkA ops M) {lr:Array Bool} {a:Act} {w:Wd} (h:alr P r n ops Q M w0 S rs σ lr a w) (jN: ∀i,i<M->lr.getD i true=true):wpAnyIn (fen r) 0 P .any ops (lift n Q) (left ops lr) lr a w:=by
 obtain⟨β,_,v,ob,_,fu,⟨σr,Dq,VU,ha,hb⟩,acE⟩:=h.fut [] List.nodup_nil (λi=>⟨(λhi=>by cases hi),λhi=>by have h2:=hi.2;rw[jN i hi.1]at h2;cases h2⟩);rw[OX (ob':=ob) (L':=λ_=>true) λx hx=>⟨rfl,by rw[jN x hx]⟩]at acE
 have hσ:σr=stA ops v σ M:=by
  refine St.YJ (λx=>?_) (by rw[VU,ae5])
  by_cases hx: ∃i,i<M/\jd ops i=some x
  .obtain⟨i,hi,hd⟩:=hx
   rw[ha i hi (jN i hi) x hd,ae6 hd hi λk hk Mi=>d9.ds k hk i hi Mi x hd]
  have EC: ∀i,i<M->jd ops i≠some x:=λi hi hd=>hx ⟨i,hi,hd⟩;rw[hb x λi hi _=>EC i hi,OY EC]
 subst hσ;refine fu w acE [] lr a ⟨(λ_ hp=>by cases hp),List.nodup_nil,List.Pairwise.nil,(λ_ hp=>by cases hp),(λ_ hp=>by cases hp),λi hi=>?_,h.sz,by simp[aho],h.cl,⟨_,Dq,rfl,λ_ _=>rfl⟩,(λ_ hp=>by cases hp),(λ_ hp=>by cases hp),(λ_ hp=>by cases hp)⟩;rw[abK hi]
 rcases zdr i M with h1 | h1
 .rw[jN i h1,show Nat.blt i M=true from by rw[Nat.blt_eq];exact h1];rfl
 rw[h.hi i h1 hi,show Nat.blt i M=false from by rw[<-zdg,Nat.blt_eq];omega];rfl
/-! The walk's rules,as scripts use them:j is the next one's number. -/
section
variable {op:Op} {ty:Td} {pos:String} {after:Array Edge} {guard:Option (Nat×Bool)} {k i:Nat} {β:Nat->Nat} {ps:List HP}
end
end
section
variable {w w' w0:Wd} {S:NP} {rs:List HP} {put:HP->List HP}
theorem Sep.Zi {E s n:Nat} {v:Value} {xs:LV} (h:Sep w0 S rs w) (hat:At rs (yU E s v n xs) put) (hn:0<n):
    ∃g c rest,v=.slice (some ⟨g,0,none⟩) n c/\(xs++rest).length=c*s/\xs.length=n*s/\n<=c/\c<=maxLen/\Sep w0 S (put (blk g (xs++rest) E)) w:=by
  obtain⟨F,hp,hS,jO⟩:=h.focus hat;obtain⟨⟨hl,ho⟩,hF⟩:=hp
  rcases ho with⟨_,h0⟩ | ⟨g,c,cur,hv,_,hh,q9,hmax,hsz,yY⟩
  . omega
  have e:cur=(xs++cur.toList.drop (n*s)).toArray:=by
    rw[<-yY,zbs,Array.toArray_toList]
  refine⟨g,c,cur.toList.drop (n*s),hv,?_,hl,q9,hmax,?_⟩
  . have:=zbb Array.size e
    rw[hsz]at this;simpa using this.symm
  refine h.imp hat λF hF=>⟨λb=>?_,?_⟩
  . rw[hF.2 b,hv]
    simp[Value.ownBlock,eq_comm]
  show w.heap[g]? =some (.cells (xs++cur.toList.drop (n*s)).toArray E (0,0))
  rw[hh,<-e]
theorem Sep.Zj {E s n c g:Nat} {xs rest:LV} (h:Sep w0 S rs w) (hat:At rs (blk g (xs++rest) E) put) (hc:(xs++rest).length=c*s) (hl:xs.length=n*s) (q9:n<=c) (hm:c<=maxLen):
    Sep w0 S (put (yU E s (.slice (some ⟨g,0,none⟩) n c) n xs)) w:=
  h.imp hat λF hF=>⟨⟨hl,.inr ⟨g,c,(xs++rest).toArray,rfl,zaq _,hF.2,q9,hm,by simpa using hc,by rw[<-hl];simp⟩⟩,λx=>by rw[hF.1 x];simp[Value.ownBlock,eq_comm]⟩
theorem abL {xs rest:LV} {i:Nat} {v:Value} (h:i<xs.length):(xs++rest).set i v=xs.set i v++rest:=by
 rw[List.set_append_left _ _ h]
end
section
variable {P:Program} {r:Option Nat} {n:Nat} {ops:AO} {Q:Post} {lv:List Bool} {pd pd':LNB} {rest:LO} {σ:St} {w w' w0:Wd} {S F:NP} {rs:List HP} {p q p0:HP} {put:HP->List HP} {op:Op} {ty:Td} {pos:String} {after:Array Edge} {guard:Option (Nat×Bool)}
end
open Extern.Stop (cell)
section gives
variable {P:Program} {ρ:Od->Value} {ty:Td} {w w':Wd} {x y z u:Od}
class anp (P:Program) (t:Td):Prop where
 ok:P.eqGuardType P.depth t=false
theorem run_eqGuard_agg {op:BinOp} {t:Td} [h:anp P t] {xs ys:Array Value} (x y:Od):(eqGuard op t x y (.agg xs) (.agg ys)).run P w=.ok () w:=by
 unfold eqGuard;cases op<;>simp[h.ok,run_program]
end gives

section cells
variable {P:Program} {w:Wd}
def qz (P:Program) (σ:St) (w:Wd):List ResultVar->LV->Prop
 | [],vs=>vs=[]
 | .tmp t::l,vs=>∃us,vs=σ t::us/\qz P σ w l us
 | .cell a t::l,vs=>∃v us ad,vs=v::us/\σ a=.pointer (some ad)/\(loadVar t ad).run P w=.ok v w/\qz P σ w l us
theorem M5 {σ:St} (g:ResultVar->Sem Value) (hg: ∀t,g (.tmp t)=pure (σ t)) (hc: ∀a t,g (.cell a t)=(do loadVar t (<-asAddr (σ a)))): ∀(l:List ResultVar) (vs:LV),qz P σ w l vs->
    (List.mapM g l).run P w=.ok vs w:=by
  intro l
  induction l with
  | nil=>intro vs h;have h:vs=[]:=h;subst h;rfl
  | cons r l ih=>
    intro vs h;cases r with
    | cell a t=>
      obtain⟨v,us,ad,rfl,h1,h2,h3⟩:=h;rw[List.mapM_cons,hc,h1];simp[asAddr,h2,ih us h3]
    | tmp t=>
      obtain⟨us,rfl,h3⟩:=h;rw[List.mapM_cons,hg];simp[ih us h3]
theorem rY {fn:Func} {tmps:Array Value} {σ:St} (hσ: ∀i,tmps.getD i undef=σ i) {l:List ResultVar} (hl:fn.results=l.toArray) {vs:LV} (h:qz P σ w l vs):
    (results fn tmps).run P w=.ok (eP vs) w:=by
  unfold results;rw[hl,List.mapM_toArray]
  have:=M5 (P:=P) (w:=w) (σ:=σ) (λ
    | .tmp t=>pure (tmps.getD t undef)
    | .cell a t=>do loadVar t (<-asAddr (tmps.getD a undef))) (λt=>by simp[hσ]) (λa t=>by simp[hσ]) l vs h
  rw[zbh,Sem.run_map];refine(zbb (λr=>(Result.andThen r _).andThen _) this).trans ?_;simp only[zai]
  match vs with
  | []=>simp[eP]
  | [v]=>simp[eP]
  | u::v::us=>simp[eP]
def abM (P:Program) (l:List ResultVar) (R:Value->Wd->Prop):Post:=λe σ w=>match e with
 | .normal | .ret=>σ.ds=[]/\∃vs,qz P σ w l vs/\R (eP vs) w
 | _=>False
theorem aN {l:List ResultVar} {R:Value->Wd->Prop} {σ:St} (h: ∃vs,qz P σ w l vs/\R (eP vs) w) (hd:σ.ds=[]:=by exact rfl):abM P l R .ret σ w:=⟨hd,h⟩
theorem uM {f:FuncId} {fn:Func} {c:Code} {args:LV} {R:Value->Wd->Prop} {n:Nat} {l:List ResultVar}
    (hf:P.funcs[f]? =some fn) (hb:fn.body=some c) (hn:fn.ntmps=n) (hl:fn.results=l.toArray) (Cz:Nat.ble args.length n=true)
    (h:FW P none n c (abM P l R) (y5 0 args) w):aY P f args w R:=by
  have q9:args.length<=n:=zaw Cz;refine(callsIn_wide (n:=0)).1 (callsIn_of_wp_marks (F:=fen none) hf hb trivial (Go.wpIn_mono (h _ ⟨?_,(Du args 0).symm,λi=>?_⟩) ?_))
  . simp[hn];omega
  . rw[vF]
    simp only[zaq,if_true,zfg];simp only[zbl,zdy];rw[zfh]
    split
    . simp
    rename_i hge;simp at hge;rw[zcn oM];rw[zdz]
    split<;>rfl
  rintro e a' w' ⟨s,hs,hq⟩;cases e with
  | normal=>
    obtain⟨h0,vs,h1,h2⟩:=hq;show LeavesInM _ _ _ _ _ _ _ _ _
    rw[hs.defers,h0];exact⟨_,rY hs.get hl h1,h2⟩
  | ret=>
    obtain⟨h0,vs,h1,h2⟩:=hq;show LeavesInM _ _ _ _ _ _ _ _ _
    rw[hs.defers,h0];exact⟨_,rY hs.get hl h1,h2⟩
  | _=>exact hq.elim
section
variable {f:FuncId} {fn:Func} {c:Code} {R:Value->Wd->Prop} {n:Nat} {l:List ResultVar} (hf:P.funcs[f]? =some fn) (hb:fn.body=some c) (hn:fn.ntmps=n) (hl:fn.results=l.toArray)
include hf hb hn hl
theorem tQ {a0:Value} (hk:Nat.ble 1 n=true) (h:FW P none n c (abM P l R) (upd und 0 a0) w):aY P f [a0] w R:=uM hf hb hn hl hk h
theorem zR {a0 a1:Value} (hk:Nat.ble 2 n=true) (h:FW P none n c (abM P l R) (upd (upd und 1 a1) 0 a0) w):aY P f [a0,a1] w R:=uM hf hb hn hl hk h
theorem Q9 {a0 a1 a2:Value} (hk:Nat.ble 3 n=true) (h:FW P none n c (abM P l R) (upd (upd (upd und 2 a2) 1 a1) 0 a0) w):aY P f [a0,a1,a2] w R:=uM hf hb hn hl hk h
end
theorem pU {b o T k:Nat} [h1:Agg P T k] {cs us:LV} {E:Td} (hb:w.heap[b]? =some (.cells cs.toArray E (0,0))) (hu:(cs.drop o).take k=us) (hk:us.length=k):(loadVar T ⟨b,o,none⟩).run P w=.ok (.agg us.toArray) w:=by
 simp[loadVar,h1.agg,h1.size,uy hb hu hk]
end cells

section drawq
variable {P:Program} {r:Option Nat} {n:Nat} {ops:AO} {Q:Post} {lv:List Bool} {pd:LNB} {σ:St} {w w0:Wd} {S:NP} {rs:List HP} {ty:Td} {pos:String} {after:Array Edge} {guard:Option (Nat×Bool)}
theorem gI (eH:dJ n ops=true) (e:Nat) (pd':LNB) {d:Nat} {f:FuncId} {xs:List Od} {ats:Array Td} {vals:LV} {v:Value} [he:qb P f] (H:Sep w0 S rs w) (hc:Rk P f vals w v)
    (ho:ops[e]? =some ⟨some d,.call {callee:=.value (.func f),args:=xs.toArray,argTypes:=ats},ty,pos,after,guard⟩:=by exact rfl)
    (hw:Region.wanted ⟨some d,.call {callee:=.value (.func f),args:=xs.toArray,argTypes:=ats},ty,pos,after,guard⟩ (bX ops σ)=true:=by kernel_rfl) (hv:xs.map (evF σ)=vals:=by exact rfl) (d9:eX ops lv (pd.map (·.1)) e=true:=by kernel_rfl)
    (oo:pd.filter (λp=> !((above ops e).contains p.1))=pd':=by exact pD) (h: ∀w',Sep w0 S rs w'->Kept noB w w'->jk P ops (upd σ d v) w' pd'/\FG P r n ops Q (lv.set e true) pd' (upd σ d v) w'):FG P r n ops Q lv pd σ w:=
  rD eH e pd' ho hw hc hv d9 oo λv' w' ⟨h1,h2⟩=>by subst h1;exact h w' (H.keep h2) h2
end drawq
theorem gV.mid {w:Wd} {A:OA} {n s:Nat} {xs:LV} (hr:gV w A n s xs) {l h cap:Nat} (hl:l<=h) (hh:h<=n) (hc:n<=cap):gV w (if cap=l then A else A.map (·.add (l*s))) (h-l) s ((xs.drop (l*s)).take ((h-l)*s)):=
 (hr.cut (k:=l) (cap:=cap) oM hc).take oM

def als (E:Nat) (v:Value) (n:Nat) (xs:LV):HP:=exH λx:Option (Nat×LV)×Nat=>match x with
 | (none,c)=>jo (v=.slice none n c/\n=0/\xs=[])
 | (some (g,rest),c)=>star (jo (v=.slice (some ⟨g,0,none⟩) n c/\xs.length=n/\n<=c)) (blk g (xs++rest) E)
section pre
variable {w0 w w':Wd} {S:NP} {rs:List HP} {put:HP->List HP}
theorem ahp {E n c:Nat} {A:OA} {xs:LV} {F:NP} (h:(als E (.slice A n c) n xs).ok F w):gV w A n 1 xs:=by
 obtain⟨⟨_ | ⟨g,rest⟩,c'⟩,hx⟩:=h
 .obtain⟨⟨h1,h2,h3⟩,_⟩:=hx
  subst h2 h3;exact gV.nil _ _ _
 obtain⟨F1,F2,hF,hd,⟨⟨h1,h2,h3⟩,_⟩,hb⟩:=hx;injection h1 with h1 _ _
 subst h1;refine⟨oM,λ_=>⟨_,rfl,λj u hu=>?_⟩⟩;rw[Addr.add_lit,zdm,jD hb.2,zbz (zaz.1 hu).1];exact hu
theorem Sep.preRow {E n c:Nat} {A:OA} {xs:LV} (h:Sep w0 S rs w) (hat:At rs (als E (.slice A n c) n xs) put):gV w A n 1 xs:=by
 obtain⟨F,hp,_,_⟩:=h.focus hat;exact ahp hp
end pre
end Go.Mw
