/-
 Made by program:what the translation's tables say of the types and functions that its code uses.
-/
import Derived.Test.YtkfpleidaoaonaaGreatDoorNu1
import Derived.Test.YtkfpleidaoaonaaGreatDoorProg
import Derived.Test.YtkfpleidaoaonaaGreatDoorNu3
import Derived.KernelRfl
import Derived.Laws.OwnMore
import Derived.Stop.BytesEq
set_option linter.unusedVariables false
set_option linter.unusedSimpArgs false
namespace Go.Proofs.YtkfpleidaoaonaaGreatDoor
open Go Go.Mw Tryz
instance:OneCell prog 1:={}
instance:Zero prog 1 (Value.nilFunc):={}
instance:Cells prog 1 1 8:={}
instance aoi:OneCell prog 2:={}
instance:Zero prog 2 (Value.int .i64 0):={}
instance:Cells prog 2 1 8:={}
instance:lF prog 2 .i64:={}
instance aml:OneCell prog 3:={}
instance:Zero prog 3 (Value.int .i64 0):={}
instance:Cells prog 3 1 8:={}
instance:lF prog 3 .i64:={}
instance aoj:OneCell prog 4:={}
instance:Zero prog 4 (Value.bool false):={}
instance:Cells prog 4 1 1:={}
instance:ZV prog 4:={}
instance:OneCell prog 5:={}
instance:Zero prog 5 (Value.int .u8 0):={}
instance:Cells prog 5 1 1:={}
instance:lF prog 5 .u8:={}
instance:OneCell prog 6:={}
instance:Zero prog 6 (Value.int .u8 0):={}
instance:Cells prog 6 1 1:={}
instance:lF prog 6 .u8:={}
instance:Agg prog 7 4:={}
instance:Zero prog 7 (Value.agg #[Value.int .i64 0,Value.int .i64 0,Value.bool false,Value.int .u8 0]):={}
instance:Cells prog 7 4 24:={}
instance amm:OneCell prog 9:={}
instance:Zero prog 9 (Value.string .empty):={}
instance:Cells prog 9 1 16:={}
instance:nZ prog 9:={}
instance:OneCell prog 12:={}
instance:Zero prog 12 (Value.int .u64 0):={}
instance:Cells prog 12 1 8:={}
instance:lF prog 12 .u64:={}
instance:OneCell prog 20:={}
instance:Zero prog 20 (Value.nilIface):={}
instance:Cells prog 20 1 16:={}
instance:OneCell prog 21:={}
instance:Zero prog 21 (Value.int .i32 0):={}
instance:Cells prog 21 1 4:={}
instance:lF prog 21 .i32:={}
instance:OneCell prog 22:={}
instance:Zero prog 22 (Value.slice none 0 0):={}
instance:Cells prog 22 1 24:={}
instance:dD prog 22 54:={}
instance:OneCell prog 23:={}
instance:Zero prog 23 (Value.slice none 0 0):={}
instance:Cells prog 23 1 24:={}
instance:dD prog 23 92:={}
instance:OneCell prog 24:={}
instance:Zero prog 24 (Value.slice none 0 0):={}
instance:Cells prog 24 1 24:={}
instance:dD prog 24 94:={}
instance:Agg prog 26 3:={}
instance:Zero prog 26 (Value.agg #[Value.slice none 0 0,Value.slice none 0 0,Value.int .i64 0]):={}
instance:Cells prog 26 3 56:={}
instance:OneCell prog 27:={}
instance:Zero prog 27 (Value.slice none 0 0):={}
instance:Cells prog 27 1 24:={}
instance:dD prog 27 82:={}
instance:OneCell prog 29:={}
instance:Zero prog 29 (Value.int .i64 0):={}
instance:Cells prog 29 1 8:={}
instance:lF prog 29 .i64:={}
instance:OneCell prog 37:={}
instance:Zero prog 37 (Value.slice none 0 0):={}
instance:Cells prog 37 1 24:={}
instance:dD prog 37 27:={}
instance:OneCell prog 38:={}
instance:Zero prog 38 (Value.pointer none):={}
instance:Cells prog 38 1 8:={}
instance:oq prog 38:=⟨_,(by kernel_rfl:Program.underlying _ _=some (.pointer 75))⟩
instance:OneCell prog 41:={}
instance:Zero prog 41 (Value.pointer none):={}
instance:Cells prog 41 1 8:={}
instance:oq prog 41:=⟨_,(by kernel_rfl:Program.underlying _ _=some (.pointer 48))⟩
instance:Agg prog 48 6:={}
instance:Zero prog 48 (Value.agg #[Value.slice none 0 0,Value.slice none 0 0,Value.slice none 0 0,Value.int .i64 0,Value.slice none 0 0,Value.slice none 0 0]):={}
instance:Cells prog 48 6 128:={}
instance aok:Agg prog 50 2:={}
instance:Zero prog 50 (Value.agg #[Value.int .i64 0,Value.bool false]):={}
instance:Cells prog 50 2 16:={}
instance aol:Agg prog 52 3:={}
instance:Zero prog 52 (Value.agg #[Value.bool false,Value.int .i64 0,Value.string .empty]):={}
instance:Cells prog 52 3 32:={}
instance:Agg prog 54 7:={}
instance:Zero prog 54 (Value.agg #[Value.int .i64 0,Value.string .empty,Value.int .i64 0,Value.bool false,Value.bool false,Value.int .i64 0,Value.string .empty]):={}
instance:Cells prog 54 7 72:={}
instance:OneCell prog 60:={}
instance:Zero prog 60 (Value.nilIface):={}
instance:Cells prog 60 1 16:={}
instance:OneCell prog 64:={}
instance:Zero prog 64 (Value.int .u32 0):={}
instance:Cells prog 64 1 4:={}
instance:lF prog 64 .u32:={}
instance:Agg prog 66 1:={}
instance:Zero prog 66 (Value.agg #[Value.int .u32 0]):={}
instance:Cells prog 66 1 4:={}
instance:Agg prog 68 2:={}
instance:Zero prog 68 (Value.agg #[Value.int .i32 0,Value.int .u32 0]):={}
instance:Cells prog 68 2 8:={}
instance:Agg prog 70 2:={}
instance:Zero prog 70 (Value.agg #[Value.int .i32 0,Value.int .u32 0]):={}
instance:Cells prog 70 2 8:={}
instance:Agg prog 72 3:={}
instance:Zero prog 72 (Value.agg #[Value.int .u32 0,Value.int .i32 0,Value.int .u32 0]):={}
instance:Cells prog 72 3 12:={}
instance:OneCell prog 73:={}
instance:Zero prog 73 (Value.nilFunc):={}
instance:Cells prog 73 1 8:={}
instance:Agg prog 75 10:={}
instance:Zero prog 75 (Value.agg #[Value.slice none 0 0,Value.slice none 0 0,Value.slice none 0 0,Value.int .i64 0,Value.slice none 0 0,Value.nilIface,Value.int .u32 0,Value.int .i32 0,Value.int .u32 0,Value.nilFunc]):={}
instance:Cells prog 75 10 144:={}
instance:Agg prog 79 2:={}
instance:Zero prog 79 (Value.agg #[Value.slice none 0 0,Value.slice none 0 0]):={}
instance:Cells prog 79 2 48:={}
instance:mO prog 79 2 27:={}
instance:OneCell prog 80:={}
instance:Zero prog 80 (Value.slice none 0 0):={}
instance:Cells prog 80 1 24:={}
instance:dD prog 80 52:={}
instance:Agg prog 82 2:={}
instance:Zero prog 82 (Value.agg #[Value.slice none 0 0,Value.int .i64 0]):={}
instance:Cells prog 82 2 32:={}
instance:OneCell prog 84:={}
instance:Zero prog 84 (Value.slice none 0 0):={}
instance:Cells prog 84 1 24:={}
instance:dD prog 84 3:={}
instance:OneCell prog 87:={}
instance:Zero prog 87 (Value.slice none 0 0):={}
instance:Cells prog 87 1 24:={}
instance:dD prog 87 9:={}
instance:Agg prog 92 3:={}
instance:Zero prog 92 (Value.agg #[Value.int .i64 0,Value.int .i64 0,Value.string .empty]):={}
instance:Cells prog 92 3 32:={}
instance:Agg prog 94 2:={}
instance:Zero prog 94 (Value.agg #[Value.string .empty,Value.slice none 0 0]):={}
instance:Cells prog 94 2 40:={}
instance:OneCell prog 95:={}
instance:Zero prog 95 (Value.slice none 0 0):={}
instance:Cells prog 95 1 24:={}
instance:dD prog 95 26:={}
instance:OneCell prog 98:={}
instance:Zero prog 98 (Value.nilFunc):={}
instance:Cells prog 98 1 8:={}
instance:OneCell prog 99:={}
instance:Zero prog 99 (Value.nilFunc):={}
instance:Cells prog 99 1 8:={}
instance:OneCell prog 104:={}
instance:Zero prog 104 (Value.pointer none):={}
instance:Cells prog 104 1 8:={}
instance:oq prog 104:=⟨_,(by kernel_rfl:Program.underlying _ _=some (.pointer 106))⟩
instance:Agg prog 106 1:={}
instance:Zero prog 106 (Value.agg #[Value.slice none 0 0]):={}
instance:Cells prog 106 1 24:={}
instance:OneCell prog 107:={}
instance:Zero prog 107 (Value.pointer none):={}
instance:Cells prog 107 1 8:={}
instance:oq prog 107:=⟨_,(by kernel_rfl:Program.underlying _ _=some (.pointer 150))⟩
instance:OneCell prog 110:={}
instance:Zero prog 110 (Value.pointer none):={}
instance:Cells prog 110 1 8:={}
instance:oq prog 110:=⟨_,(by kernel_rfl:Program.underlying _ _=some (.pointer 112))⟩
instance:Agg prog 112 2:={}
instance:Zero prog 112 (Value.agg #[Value.pointer none,Value.int .i64 0]):={}
instance:Cells prog 112 2 16:={}
instance:OneCell prog 116:={}
instance:Zero prog 116 (Value.nilFunc):={}
instance:Cells prog 116 1 8:={}
instance:OneCell prog 118:={}
instance:Zero prog 118 (Value.slice none 0 0):={}
instance:Cells prog 118 1 24:={}
instance:dD prog 118 82:={}
instance:OneCell prog 119:={}
instance:Zero prog 119 (Value.nilFunc):={}
instance:Cells prog 119 1 8:={}
instance aa7:OneCell prog 121:={}
instance:Zero prog 121 (Value.int .u64 0):={}
instance:Cells prog 121 1 8:={}
instance:lF prog 121 .u64:={}
instance:Agg prog 123 3:={}
instance:Zero prog 123 (Value.agg #[Value.int .u64 0,Value.int .u64 0,Value.int .u64 0]):={}
instance:Cells prog 123 3 24:={}
instance:OneCell prog 128:={}
instance:Zero prog 128 (Value.nilFunc):={}
instance:Cells prog 128 1 8:={}
instance:Agg prog 134 4:={}
instance:Zero prog 134 (Value.agg #[Value.slice none 0 0,Value.slice none 0 0,Value.int .i64 0,Value.int .i64 0]):={}
instance:Cells prog 134 4 64:={}
instance:OneCell prog 135:={}
instance:Zero prog 135 (Value.nilFunc):={}
instance:Cells prog 135 1 8:={}
instance:OneCell prog 136:={}
instance:Zero prog 136 (Value.nilFunc):={}
instance:Cells prog 136 1 8:={}
instance:OneCell prog 140:={}
instance:Zero prog 140 (Value.nilFunc):={}
instance:Cells prog 140 1 8:={}
instance:OneCell prog 147:={}
instance:Zero prog 147 (Value.nilFunc):={}
instance:Cells prog 147 1 8:={}
instance:OneCell prog 148:={}
instance:Zero prog 148 (Value.map none):={}
instance:Cells prog 148 1 8:={}
instance:IsMap prog 148 9 440:={}
instance:Agg prog 150 4:={}
instance:Zero prog 150 (Value.agg #[Value.bool false,Value.int .i64 0,Value.int .i64 0,Value.map none]):={}
instance:Cells prog 150 4 32:={}
instance:OneCell prog 152:={}
instance:Zero prog 152 (Value.pointer none):={}
instance:Cells prog 152 1 8:={}
instance:oq prog 152:=⟨_,(by kernel_rfl:Program.underlying _ _=some (.pointer 72))⟩
instance:OneCell prog 153:={}
instance:Zero prog 153 (Value.nilFunc):={}
instance:Cells prog 153 1 8:={}
instance:OneCell prog 156:={}
instance:Zero prog 156 (Value.nilFunc):={}
instance:Cells prog 156 1 8:={}
instance:OneCell prog 157:={}
instance:Zero prog 157 (Value.slice none 0 0):={}
instance:Cells prog 157 1 24:={}
instance:dD prog 157 153:={}
instance:OneCell prog 159:={}
instance:Zero prog 159 (Value.pointer none):={}
instance:Cells prog 159 1 8:={}
instance:oq prog 159:=⟨_,(by kernel_rfl:Program.underlying _ _=some (.pointer 220))⟩
instance:OneCell prog 162:={}
instance:Zero prog 162 (Value.slice none 0 0):={}
instance:Cells prog 162 1 24:={}
instance:dD prog 162 164:={}
instance:Agg prog 164 3:={}
instance:Zero prog 164 (Value.agg #[Value.slice none 0 0,Value.slice none 0 0,Value.int .i64 0]):={}
instance:Cells prog 164 3 56:={}
instance:OneCell prog 175:={}
instance:Zero prog 175 (Value.int .u64 0):={}
instance:Cells prog 175 1 8:={}
instance:lF prog 175 .u64:={}
instance:OneCell prog 177:={}
instance:Zero prog 177 (Value.pointer none):={}
instance:Cells prog 177 1 8:={}
instance:oq prog 177:=⟨_,(by kernel_rfl:Program.underlying _ _=some (.pointer 134))⟩
instance:OneCell prog 183:={}
instance:Zero prog 183 (Value.nilIface):={}
instance:Cells prog 183 1 16:={}
instance:OneCell prog 189:={}
instance:Zero prog 189 (Value.map none):={}
instance:Cells prog 189 1 8:={}
instance:IsMap prog 189 9 3:={}
instance:OneCell prog 190:={}
instance:Zero prog 190 (Value.slice none 0 0):={}
instance:Cells prog 190 1 24:={}
instance:dD prog 190 50:={}
instance:Agg prog 192 1:={}
instance:Zero prog 192 (Value.agg #[Value.slice none 0 0]):={}
instance:Cells prog 192 1 24:={}
instance:OneCell prog 201:={}
instance:Zero prog 201 (Value.nilFunc):={}
instance:Cells prog 201 1 8:={}
instance:OneCell prog 203:={}
instance:Zero prog 203 (Value.pointer none):={}
instance:Cells prog 203 1 8:={}
instance:oq prog 203:=⟨_,(by kernel_rfl:Program.underlying _ _=some (.pointer 66))⟩
instance:OneCell prog 205:={}
instance:Zero prog 205 (Value.pointer none):={}
instance:Cells prog 205 1 8:={}
instance:oq prog 205:=⟨_,(by kernel_rfl:Program.underlying _ _=some (.pointer 64))⟩
instance:Agg prog 208 1:={}
instance:Zero prog 208 (Value.agg #[Value.slice none 0 0]):={}
instance:Cells prog 208 1 24:={}
instance:OneCell prog 217:={}
instance:Zero prog 217 (Value.nilFunc):={}
instance:Cells prog 217 1 8:={}
instance:OneCell prog 218:={}
instance:Zero prog 218 (Value.slice none 0 0):={}
instance:Cells prog 218 1 24:={}
instance:dD prog 218 225:={}
instance:Agg prog 220 3:={}
instance:Zero prog 220 (Value.agg #[Value.int .i64 0,Value.int .i64 0,Value.slice none 0 0]):={}
instance:Cells prog 220 3 40:={}
instance:OneCell prog 223:={}
instance:Zero prog 223 (Value.slice none 0 0):={}
instance:Cells prog 223 1 24:={}
instance:dD prog 223 2:={}
instance:Agg prog 225 3:={}
instance:Zero prog 225 (Value.agg #[Value.slice none 0 0,Value.int .i64 0,Value.slice none 0 0]):={}
instance:Cells prog 225 3 56:={}
instance:OneCell prog 229:={}
instance:Zero prog 229 (Value.slice none 0 0):={}
instance:Cells prog 229 1 24:={}
instance:dD prog 229 230:={}
instance:Agg prog 230 2:={}
instance:Zero prog 230 (Value.agg #[Value.int .i64 0,Value.int .i64 0]):={}
instance:Cells prog 230 2 16:={}
instance:mO prog 230 2 2:={}
instance:OneCell prog 234:={}
instance:Zero prog 234 (Value.slice none 0 0):={}
instance:Cells prog 234 1 24:={}
instance:dD prog 234 123:={}
instance:OneCell prog 238:={}
instance:Zero prog 238 (Value.int .i64 0):={}
instance:Cells prog 238 1 8:={}
instance:lF prog 238 .i64:={}
instance:OneCell prog 254:={}
instance:Zero prog 254 (Value.nilFunc):={}
instance:Cells prog 254 1 8:={}
instance:OneCell prog 256:={}
instance:Zero prog 256 (Value.pointer none):={}
instance:Cells prog 256 1 8:={}
instance:oq prog 256:=⟨_,(by kernel_rfl:Program.underlying _ _=some (.pointer 259))⟩
instance:OneCell prog 257:={}
instance:Zero prog 257 (Value.slice none 0 0):={}
instance:Cells prog 257 1 24:={}
instance:dD prog 257 5:={}
instance:Agg prog 259 2:={}
instance:Zero prog 259 (Value.agg #[Value.pointer none,Value.slice none 0 0]):={}
instance:Cells prog 259 2 32:={}
instance:OneCell prog 262:={}
instance:Zero prog 262 (Value.pointer none):={}
instance:Cells prog 262 1 8:={}
instance:oq prog 262:=⟨_,(by kernel_rfl:Program.underlying _ _=some (.pointer 192))⟩
instance:Agg prog 263 6:={}
instance:Zero prog 263 (Value.agg #[Value.int .i64 0,Value.int .i64 0,Value.int .i64 0,Value.int .i64 0,Value.int .i64 0,Value.int .i64 0]):={}
instance:Cells prog 263 6 48:={}
instance:mO prog 263 6 3:={}
instance:OneCell prog 266:={}
instance:Zero prog 266 (Value.nilFunc):={}
instance:Cells prog 266 1 8:={}
instance:OneCell prog 267:={}
instance:Zero prog 267 (Value.pointer none):={}
instance:Cells prog 267 1 8:={}
instance:oq prog 267:=⟨_,(by kernel_rfl:Program.underlying _ _=some (.pointer 70))⟩
instance:OneCell prog 270:={}
instance:Zero prog 270 (Value.pointer none):={}
instance:Cells prog 270 1 8:={}
instance:oq prog 270:=⟨_,(by kernel_rfl:Program.underlying _ _=some (.pointer 208))⟩
instance:OneCell prog 276:={}
instance:Zero prog 276 (Value.nilFunc):={}
instance:Cells prog 276 1 8:={}
instance:OneCell prog 277:={}
instance:Zero prog 277 (Value.nilFunc):={}
instance:Cells prog 277 1 8:={}
instance:OneCell prog 278:={}
instance:Zero prog 278 (Value.nilFunc):={}
instance:Cells prog 278 1 8:={}
instance:OneCell prog 279:={}
instance:Zero prog 279 (Value.nilFunc):={}
instance:Cells prog 279 1 8:={}
instance:Agg prog 282 5:={}
instance:Zero prog 282 (Value.agg #[Value.nilFunc,Value.nilFunc,Value.nilFunc,Value.nilFunc,Value.nilFunc]):={}
instance:Cells prog 282 5 40:={}
instance:Agg prog 286 6:={}
instance:Zero prog 286 (Value.agg #[Value.int .u64 0,Value.int .u64 0,Value.int .u64 0,Value.int .u64 0,Value.int .u64 0,Value.int .u64 0]):={}
instance:Cells prog 286 6 48:={}
instance:mO prog 286 6 121:={}
instance:OneCell prog 299:={}
instance:Zero prog 299 (Value.int .u64 0):={}
instance:Cells prog 299 1 8:={}
instance:lF prog 299 .u64:={}
instance:OneCell prog 303:={}
instance:Zero prog 303 (Value.pointer none):={}
instance:Cells prog 303 1 8:={}
instance:oq prog 303:=⟨_,(by kernel_rfl:Program.underlying _ _=some (.pointer 3))⟩
instance:OneCell prog 307:={}
instance:Zero prog 307 (Value.int .i64 0):={}
instance:Cells prog 307 1 8:={}
instance:lF prog 307 .i64:={}
instance:OneCell prog 310:={}
instance:Zero prog 310 (Value.pointer none):={}
instance:Cells prog 310 1 8:={}
instance:oq prog 310:=⟨_,(by kernel_rfl:Program.underlying _ _=some (.pointer 364))⟩
instance:Agg prog 316 256:={}
instance:Zero prog 316 (Value.agg (List.replicate 256 (Value.bool false)).toArray):={}
instance:Cells prog 316 256 256:={}
instance:mO prog 316 256 4:={}
instance:OneCell prog 320:={}
instance:Zero prog 320 (Value.pointer none):={}
instance:Cells prog 320 1 8:={}
instance:oq prog 320:=⟨_,(by kernel_rfl:Program.underlying _ _=some (.pointer 316))⟩
instance:OneCell prog 327:={}
instance:Zero prog 327 (Value.pointer none):={}
instance:Cells prog 327 1 8:={}
instance:oq prog 327:=⟨_,(by kernel_rfl:Program.underlying _ _=some (.pointer 5))⟩
instance:OneCell prog 332:={}
instance:Zero prog 332 (Value.pointer none):={}
instance:Cells prog 332 1 8:={}
instance:oq prog 332:=⟨_,(by kernel_rfl:Program.underlying _ _=some (.pointer 68))⟩
instance:OneCell prog 334:={}
instance:Zero prog 334 (Value.pointer none):={}
instance:Cells prog 334 1 8:={}
instance:oq prog 334:=⟨_,(by kernel_rfl:Program.underlying _ _=some (.pointer 21))⟩
instance:OneCell prog 336:={}
instance:Zero prog 336 (Value.pointer none):={}
instance:Cells prog 336 1 8:={}
instance:OneCell prog 341:={}
instance:Zero prog 341 (Value.nilFunc):={}
instance:Cells prog 341 1 8:={}
instance:Agg prog 342 30:={}
instance:Zero prog 342 (Value.agg (List.replicate 30 (Value.nilFunc)).toArray):={}
instance:Cells prog 342 30 240:={}
instance:mO prog 342 6 282:={}
instance:OneCell prog 348:={}
instance:Zero prog 348 (Value.nilFunc):={}
instance:Cells prog 348 1 8:={}
instance:OneCell prog 351:={}
instance:Zero prog 351 (Value.pointer none):={}
instance:Cells prog 351 1 8:={}
instance:oq prog 351:=⟨_,(by kernel_rfl:Program.underlying _ _=some (.pointer 299))⟩
instance:Agg prog 364 3:={}
instance:Zero prog 364 (Value.agg #[Value.string .empty,Value.string .empty,Value.nilIface]):={}
instance:Cells prog 364 3 48:={}
instance:Agg prog 366 24:={}
instance:Zero prog 366 (Value.agg (List.replicate 24 (Value.int .u8 0)).toArray):={}
instance:Cells prog 366 24 24:={}
instance:mO prog 366 24 5:={}
instance:OneCell prog 376:={}
instance:Zero prog 376 (Value.map none):={}
instance:Cells prog 376 1 8:={}
instance:IsMap prog 376 21 5:={}
instance:Agg prog 389 8:={}
instance:Zero prog 389 (Value.agg (List.replicate 8 (Value.int .u8 0)).toArray):={}
instance:Cells prog 389 8 8:={}
instance:mO prog 389 8 5:={}
instance:OneCell prog 394:={}
instance:Zero prog 394 (Value.pointer none):={}
instance:Cells prog 394 1 8:={}
instance:oq prog 394:=⟨_,(by kernel_rfl:Program.underlying _ _=some (.pointer 396))⟩
instance:Agg prog 396 3:={}
instance:Zero prog 396 (Value.agg #[Value.string .empty,Value.int .i64 0,Value.int .i64 0]):={}
instance:Cells prog 396 3 32:={}
instance:OneCell prog 400:={}
instance:Zero prog 400 (Value.pointer none):={}
instance:Cells prog 400 1 8:={}
instance:oq prog 400:=⟨_,(by kernel_rfl:Program.underlying _ _=some (.pointer 402))⟩
instance:Agg prog 402 1:={}
instance:Zero prog 402 (Value.agg #[Value.string .empty]):={}
instance:Cells prog 402 1 16:={}
instance:Agg prog 404 20:={}
instance:Zero prog 404 (Value.agg (List.replicate 20 (Value.int .u64 0)).toArray):={}
instance:Cells prog 404 20 160:={}
instance:mO prog 404 20 121:={}
instance:Agg prog 405 65:={}
instance:Zero prog 405 (Value.agg (List.replicate 65 (Value.int .u8 0)).toArray):={}
instance:Cells prog 405 65 65:={}
instance:mO prog 405 65 5:={}
instance:Agg prog 409 256:={}
instance:Zero prog 409 (Value.agg (List.replicate 256 (Value.int .u8 0)).toArray):={}
instance:Cells prog 409 256 256:={}
instance:mO prog 409 256 5:={}
instance:Agg prog 411 2:={}
instance:Zero prog 411 (Value.agg #[Value.int .u8 0,Value.int .u8 0]):={}
instance:Cells prog 411 2 2:={}
instance:Agg prog 412 32:={}
instance:Zero prog 412 (Value.agg (List.replicate 32 (Value.int .u8 0)).toArray):={}
instance:Cells prog 412 32 32:={}
instance:mO prog 412 16 411:={}
instance:Agg prog 415 32:={}
instance:Zero prog 415 (Value.agg (List.replicate 32 (Value.int .u8 0)).toArray):={}
instance:Cells prog 415 32 32:={}
instance:mO prog 415 32 5:={}
instance:Agg prog 416 64:={}
instance:Zero prog 416 (Value.agg (List.replicate 64 (Value.int .u8 0)).toArray):={}
instance:Cells prog 416 64 64:={}
instance:mO prog 416 64 5:={}
instance:OneCell prog 429:={}
instance:Zero prog 429 (Value.slice none 0 0):={}
instance:Cells prog 429 1 24:={}
instance:dD prog 429 430:={}
instance:Agg prog 430 3:={}
instance:Zero prog 430 (Value.agg #[Value.slice none 0 0,Value.slice none 0 0,Value.int .i64 0]):={}
instance:Cells prog 430 3 56:={}
instance:OneCell prog 433:={}
instance:Zero prog 433 (Value.nilFunc):={}
instance:Cells prog 433 1 8:={}
instance:OneCell prog 434:={}
instance:Zero prog 434 (Value.map none):={}
instance:Cells prog 434 1 8:={}
instance:IsMap prog 434 9 436:={}
instance:OneCell prog 436:={}
instance:Zero prog 436 (Value.pointer none):={}
instance:Cells prog 436 1 8:={}
instance:oq prog 436:=⟨_,(by kernel_rfl:Program.underlying _ _=some (.pointer 438))⟩
instance:Agg prog 438 2:={}
instance:Zero prog 438 (Value.agg #[Value.slice none 0 0,Value.slice none 0 0]):={}
instance:Cells prog 438 2 48:={}
instance:Agg prog 440 2:={}
instance:Zero prog 440 (Value.agg #[Value.slice none 0 0,Value.slice none 0 0]):={}
instance:Cells prog 440 2 48:={}
instance:OneCell prog 443:={}
instance:Zero prog 443 (Value.nilFunc):={}
instance:Cells prog 443 1 8:={}
instance:OneCell prog 444:={}
instance:Zero prog 444 (Value.nilFunc):={}
instance:Cells prog 444 1 8:={}
instance:OneCell prog 449:={}
instance:Zero prog 449 (Value.nilFunc):={}
instance:Cells prog 449 1 8:={}
instance:OneCell prog 452:={}
instance:Zero prog 452 (Value.nilFunc):={}
instance:Cells prog 452 1 8:={}
instance:mh prog 26 ((Value.slice none 0 0)::(Value.slice none 0 0)::(Value.int .i64 0)::[]) [(0,1),(1,1),(2,1)]:=⟨λ_=>kR,_,underlying26,λ_=>kR⟩
instance:mh prog 48 ((Value.slice none 0 0)::(Value.slice none 0 0)::(Value.slice none 0 0)::(Value.int .i64 0)::(Value.slice none 0 0)::(Value.slice none 0 0)::[]) [(0,1),(1,3),(4,1),(5,1)]:=⟨λ_=>kR,_,underlying48,λ_=>kR⟩
instance:mh prog 50 ((Value.int .i64 0)::(Value.bool false)::[]) [(0,1),(1,1)]:=⟨λ_=>kR,_,underlying50,λ_=>kR⟩
instance:mh prog 52 ((Value.bool false)::(Value.int .i64 0)::(Value.string .empty)::[]) [(0,1),(1,1),(2,1)]:=⟨λ_=>kR,_,underlying52,λ_=>kR⟩
instance:mh prog 54 ((Value.int .i64 0)::(Value.string .empty)::(Value.int .i64 0)::(Value.bool false)::(Value.bool false)::(Value.int .i64 0)::(Value.string .empty)::[]) [(0,1),(1,1),(2,2),(4,3)]:=⟨λ_=>kR,_,underlying54,λ_=>kR⟩
instance:mh prog 75 ((Value.slice none 0 0)::(Value.slice none 0 0)::(Value.slice none 0 0)::(Value.int .i64 0)::(Value.slice none 0 0)::(Value.nilIface)::(Value.int .u32 0)::(Value.int .i32 0)::(Value.int .u32 0)::(Value.nilFunc)::[]) [(0,1),(1,3),(4,1),(5,1),(6,3),(9,1)]:=⟨λ_=>kR,_,underlying75,λ_=>kR⟩
instance:mh prog 82 ((Value.slice none 0 0)::(Value.int .i64 0)::[]) [(0,1),(1,1)]:=⟨λ_=>kR,_,underlying82,λ_=>kR⟩
instance:mh prog 92 ((Value.int .i64 0)::(Value.int .i64 0)::(Value.string .empty)::[]) [(0,1),(1,1),(2,1)]:=⟨λ_=>kR,_,underlying92,λ_=>kR⟩
instance:mh prog 94 ((Value.string .empty)::(Value.slice none 0 0)::[]) [(0,1),(1,1)]:=⟨λ_=>kR,_,underlying94,λ_=>kR⟩
instance:mh prog 106 ((Value.slice none 0 0)::[]) [(0,1)]:=⟨λ_=>kR,_,underlying106,λ_=>kR⟩
instance:mh prog 112 ((Value.pointer none)::(Value.int .i64 0)::[]) [(0,1),(1,1)]:=⟨λ_=>kR,_,underlying112,λ_=>kR⟩
instance:mh prog 123 ((Value.int .u64 0)::(Value.int .u64 0)::(Value.int .u64 0)::[]) [(0,1),(1,1),(2,1)]:=⟨λ_=>kR,_,underlying123,λ_=>kR⟩
instance:mh prog 150 ((Value.bool false)::(Value.int .i64 0)::(Value.int .i64 0)::(Value.map none)::[]) [(0,1),(1,1),(2,1),(3,1)]:=⟨λ_=>kR,_,underlying150,λ_=>kR⟩
instance:mh prog 164 ((Value.slice none 0 0)::(Value.slice none 0 0)::(Value.int .i64 0)::[]) [(0,1),(1,1),(2,1)]:=⟨λ_=>kR,_,underlying164,λ_=>kR⟩
instance:mh prog 220 ((Value.int .i64 0)::(Value.int .i64 0)::(Value.slice none 0 0)::[]) [(0,1),(1,1),(2,1)]:=⟨λ_=>kR,_,underlying220,λ_=>kR⟩
instance:mh prog 225 ((Value.slice none 0 0)::(Value.int .i64 0)::(Value.slice none 0 0)::[]) [(0,1),(1,1),(2,1)]:=⟨λ_=>kR,_,underlying225,λ_=>kR⟩
instance:mh prog 282 ((Value.nilFunc)::(Value.nilFunc)::(Value.nilFunc)::(Value.nilFunc)::(Value.nilFunc)::[]) [(0,1),(1,1),(2,1),(3,1),(4,1)]:=⟨λ_=>kR,_,underlying282,λ_=>kR⟩
instance:mh prog 364 ((Value.string .empty)::(Value.string .empty)::(Value.nilIface)::[]) [(0,1),(1,1),(2,1)]:=⟨λ_=>kR,_,underlying364,λ_=>kR⟩
instance:mh prog 396 ((Value.string .empty)::(Value.int .i64 0)::(Value.int .i64 0)::[]) [(0,1),(1,1),(2,1)]:=⟨λ_=>kR,_,underlying396,λ_=>kR⟩
instance:mh prog 402 ((Value.string .empty)::[]) [(0,1)]:=⟨λ_=>kR,_,underlying402,λ_=>kR⟩
instance:mh prog 411 ((Value.int .u8 0)::(Value.int .u8 0)::[]) [(0,1),(1,1)]:=⟨λ_=>kR,_,underlying411,λ_=>kR⟩
instance:mh prog 430 ((Value.slice none 0 0)::(Value.slice none 0 0)::(Value.int .i64 0)::[]) [(0,1),(1,1),(2,1)]:=⟨λ_=>kR,_,underlying430,λ_=>kR⟩
instance:mh prog 438 ((Value.slice none 0 0)::(Value.slice none 0 0)::[]) [(0,1),(1,1)]:=⟨λ_=>kR,_,underlying438,λ_=>kR⟩
instance:mh prog 440 ((Value.slice none 0 0)::(Value.slice none 0 0)::[]) [(0,1),(1,1)]:=⟨λ_=>kR,_,underlying440,λ_=>kR⟩
instance:cK prog 26 0 0:={}
instance:cK prog 26 1 1:={}
instance:cK prog 26 2 2:={}
instance:cK prog 48 0 0:={}
instance:cK prog 48 1 1:={}
instance:cK prog 48 2 4:={}
instance:cK prog 48 3 5:={}
instance:cK prog 50 0 0:={}
instance:cK prog 50 1 1:={}
instance:cK prog 52 0 0:={}
instance:cK prog 52 1 1:={}
instance:cK prog 52 2 2:={}
instance:cK prog 54 0 0:={}
instance:cK prog 54 2 2:={}
instance:cK prog 66 1 0:={}
instance:cK prog 68 0 0:={}
instance:cK prog 68 1 1:={}
instance:cK prog 70 1 0:={}
instance:cK prog 72 1 0:={}
instance:cK prog 72 2 1:={}
instance:cK prog 75 0 0:={}
instance:cK prog 75 1 1:={}
instance:cK prog 75 2 4:={}
instance:cK prog 75 3 5:={}
instance:cK prog 75 4 6:={}
instance:cK prog 75 5 9:={}
instance:cK prog 82 0 0:={}
instance:cK prog 82 1 1:={}
instance:cK prog 92 0 0:={}
instance:cK prog 92 1 1:={}
instance:cK prog 92 2 2:={}
instance:cK prog 94 0 0:={}
instance:cK prog 94 1 1:={}
instance:cK prog 106 0 0:={}
instance:cK prog 112 0 0:={}
instance:cK prog 112 1 1:={}
instance:cK prog 123 0 0:={}
instance:cK prog 123 1 1:={}
instance:cK prog 123 2 2:={}
instance:cK prog 134 0 0:={}
instance:cK prog 134 1 3:={}
instance:cK prog 150 0 0:={}
instance:cK prog 150 1 1:={}
instance:cK prog 150 2 2:={}
instance:cK prog 150 3 3:={}
instance:cK prog 164 0 0:={}
instance:cK prog 164 1 1:={}
instance:cK prog 164 2 2:={}
instance:cK prog 192 0 0:={}
instance:cK prog 208 0 0:={}
instance:cK prog 220 0 0:={}
instance:cK prog 220 1 1:={}
instance:cK prog 220 2 2:={}
instance:cK prog 225 0 0:={}
instance:cK prog 225 1 1:={}
instance:cK prog 225 2 2:={}
instance:cK prog 259 0 0:={}
instance:cK prog 259 1 1:={}
instance:cK prog 396 0 0:={}
instance:cK prog 396 1 1:={}
instance:cK prog 396 2 2:={}
instance:cK prog 411 0 0:={}
instance:cK prog 411 1 1:={}
instance:cK prog 430 0 0:={}
instance:cK prog 430 1 1:={}
instance:cK prog 430 2 2:={}
instance:cK prog 438 0 0:={}
instance:cK prog 438 1 1:={}
instance:cK prog 440 0 0:={}
instance:cK prog 440 1 1:={}
instance:EJ prog 282 0 0 277:=⟨_,underlying282,rfl⟩
instance:EJ prog 282 1 1 278:=⟨_,underlying282,rfl⟩
instance:EJ prog 282 2 2 279:=⟨_,underlying282,rfl⟩
instance:EJ prog 440 1 1 223:=⟨_,underlying440,rfl⟩
instance:bC prog 3:={}
instance:bC prog 4:={}
instance:bC prog 5:={}
instance:bC prog 6:={}
instance:bC prog 7:={}
instance:bC prog 8:={}
instance:bC prog 9:={}
instance:bC prog 10:={}
instance:bC prog 12:={}
instance:bC prog 13:={}
instance:bC prog 14:={}
instance:bC prog 15:={}
instance:bC prog 16:={}
instance:bC prog 17:={}
instance:bC prog 18:={}
instance:bC prog 19:={}
instance:bC prog 20:={}
instance:bC prog 21:={}
instance:bC prog 22:={}
instance:bC prog 23:={}
instance:bC prog 24:={}
instance:bC prog 25:={}
instance:bC prog 26:={}
instance:bC prog 27:={}
instance:bC prog 28:={}
instance:bC prog 29:={}
instance:bC prog 30:={}
instance:bC prog 31:={}
instance:bC prog 32:={}
instance:bC prog 33:={}
instance:bC prog 34:={}
instance:bC prog 35:={}
instance:bC prog 36:={}
instance:bC prog 37:={}
instance:bC prog 38:={}
instance:bC prog 39:={}
instance:bC prog 40:={}
instance:bC prog 41:={}
instance:bC prog 42:={}
instance:bC prog 43:={}
instance:bC prog 44:={}
instance:bC prog 45:={}
instance:bC prog 46:={}
instance:bC prog 47:={}
instance:bC prog 48:={}
instance:bC prog 49:={}
instance:bC prog 50:={}
instance:bC prog 51:={}
instance:bC prog 52:={}
instance:bC prog 53:={}
instance:bC prog 54:={}
instance:bC prog 55:={}
instance:bC prog 56:={}
instance:bC prog 57:={}
instance:bC prog 58:={}
instance:bC prog 59:={}
instance:bC prog 60:={}
instance:bC prog 61:={}
instance:bC prog 62:={}
instance:bC prog 63:={}
instance:bC prog 64:={}
instance:bC prog 65:={}
instance:bC prog 66:={}
instance:bC prog 67:={}
instance:bC prog 68:={}
instance:bC prog 69:={}
instance:bC prog 70:={}
instance:bC prog 71:={}
instance:bC prog 72:={}
instance:bC prog 73:={}
instance:bC prog 74:={}
instance:bC prog 75:={}
instance:bC prog 76:={}
instance:bC prog 77:={}
instance:bC prog 78:={}
instance:bC prog 79:={}
instance:bC prog 80:={}
instance:bC prog 81:={}
instance:bC prog 82:={}
instance:bC prog 83:={}
instance:bC prog 84:={}
instance:bC prog 85:={}
instance:bC prog 86:={}
instance:bC prog 87:={}
instance:bC prog 88:={}
instance:bC prog 89:={}
instance:bC prog 90:={}
instance:bC prog 91:={}
instance:bC prog 92:={}
instance:bC prog 93:={}
instance:bC prog 94:={}
instance:bC prog 95:={}
instance:bC prog 96:={}
instance:bC prog 97:={}
instance:bC prog 98:={}
instance:bC prog 99:={}
instance:bC prog 100:={}
instance:bC prog 101:={}
instance:bC prog 102:={}
instance:bC prog 103:={}
instance:bC prog 104:={}
instance:bC prog 105:={}
instance:bC prog 106:={}
instance:bC prog 107:={}
instance:bC prog 108:={}
instance:bC prog 110:={}
instance:bC prog 111:={}
instance:bC prog 112:={}
instance:bC prog 114:={}
instance:bC prog 115:={}
instance:bC prog 116:={}
instance:bC prog 117:={}
instance:bC prog 118:={}
instance:bC prog 119:={}
instance:bC prog 120:={}
instance:bC prog 121:={}
instance:bC prog 122:={}
instance:bC prog 123:={}
instance:bC prog 124:={}
instance:bC prog 125:={}
instance:bC prog 126:={}
instance:bC prog 127:={}
instance:bC prog 128:={}
instance:bC prog 129:={}
instance:bC prog 130:={}
instance:bC prog 131:={}
instance:bC prog 132:={}
instance:bC prog 133:={}
instance:bC prog 135:={}
instance:bC prog 136:={}
instance:bC prog 137:={}
instance:bC prog 138:={}
instance:bC prog 139:={}
instance:bC prog 140:={}
instance:bC prog 141:={}
instance:bC prog 142:={}
instance:bC prog 143:={}
instance:bC prog 144:={}
instance:bC prog 145:={}
instance:bC prog 146:={}
instance:bC prog 147:={}
instance:bC prog 148:={}
instance:bC prog 149:={}
instance:bC prog 150:={}
instance:bC prog 151:={}
instance:bC prog 152:={}
instance:bC prog 153:={}
instance:bC prog 154:={}
instance:bC prog 155:={}
instance:bC prog 156:={}
instance:bC prog 172:={}
instance:bC prog 176:={}
instance:bC prog 177:={}
instance:bC prog 178:={}
instance:bC prog 179:={}
instance:bC prog 181:={}
instance:bC prog 182:={}
instance:bC prog 183:={}
instance:bC prog 184:={}
instance:bC prog 185:={}
instance:bC prog 186:={}
instance:bC prog 187:={}
instance:bC prog 188:={}
instance:bC prog 189:={}
instance:bC prog 190:={}
instance:bC prog 191:={}
instance:bC prog 192:={}
instance:bC prog 193:={}
instance:bC prog 194:={}
instance:bC prog 196:={}
instance:bC prog 197:={}
instance:bC prog 198:={}
instance:bC prog 199:={}
instance:bC prog 200:={}
instance:bC prog 201:={}
instance:bC prog 202:={}
instance:bC prog 203:={}
instance:bC prog 204:={}
instance:bC prog 205:={}
instance:bC prog 206:={}
instance:bC prog 207:={}
instance:bC prog 208:={}
instance:bC prog 209:={}
instance:bC prog 210:={}
instance:bC prog 211:={}
instance:bC prog 212:={}
instance:bC prog 213:={}
instance:bC prog 214:={}
instance:bC prog 215:={}
instance:bC prog 216:={}
instance:bC prog 217:={}
instance:bC prog 218:={}
instance:bC prog 219:={}
instance:bC prog 221:={}
instance:bC prog 222:={}
instance:bC prog 227:={}
instance:bC prog 228:={}
instance:bC prog 229:={}
instance:bC prog 238:={}
instance:bC prog 239:={}
instance:bC prog 240:={}
instance:bC prog 244:={}
instance:bC prog 245:={}
instance:bC prog 246:={}
instance:bC prog 247:={}
instance:bC prog 248:={}
instance:bC prog 249:={}
instance:bC prog 250:={}
instance:bC prog 252:={}
instance:bC prog 253:={}
instance:bC prog 254:={}
instance:bC prog 263:={}
instance:bC prog 264:={}
instance:bC prog 265:={}
instance:bC prog 266:={}
instance:bC prog 267:={}
instance:bC prog 268:={}
instance:bC prog 277:={}
instance:bC prog 278:={}
instance:bC prog 283:={}
instance:bC prog 284:={}
instance:bC prog 285:={}
instance:bC prog 286:={}
instance:bC prog 287:={}
instance:bC prog 288:={}
instance:bC prog 289:={}
instance:bC prog 290:={}
instance:bC prog 291:={}
instance:bC prog 292:={}
instance:bC prog 293:={}
instance:bC prog 295:={}
instance:bC prog 296:={}
instance:bC prog 297:={}
instance:bC prog 304:={}
instance:bC prog 305:={}
instance:bC prog 306:={}
instance:bC prog 307:={}
instance:bC prog 308:={}
instance:bC prog 309:={}
instance:bC prog 310:={}
instance:bC prog 318:={}
instance:bC prog 319:={}
instance:bC prog 324:={}
instance:bC prog 325:={}
instance:bC prog 326:={}
instance:bC prog 327:={}
instance:bC prog 330:={}
instance:bC prog 331:={}
instance:bC prog 339:={}
instance:bC prog 340:={}
instance:bC prog 342:={}
instance:bC prog 344:={}
instance:bC prog 346:={}
instance:bC prog 348:={}
instance:bC prog 349:={}
instance:bC prog 350:={}
instance:bC prog 351:={}
instance:bC prog 361:={}
instance:bC prog 364:={}
instance:bC prog 365:={}
instance:bC prog 366:={}
instance:bC prog 367:={}
instance:bC prog 371:={}
instance:bC prog 372:={}
instance:bC prog 388:={}
instance:bC prog 389:={}
instance:bC prog 390:={}
instance:bC prog 391:={}
instance:bC prog 392:={}
instance:bC prog 393:={}
instance:bC prog 394:={}
instance:bC prog 395:={}
instance:bC prog 396:={}
instance:bC prog 397:={}
instance:bC prog 398:={}
instance:bC prog 399:={}
instance:bC prog 400:={}
instance:bC prog 401:={}
instance:bC prog 402:={}
instance:bC prog 403:={}
instance:bC prog 404:={}
instance:bC prog 405:={}
instance:bC prog 406:={}
instance:bC prog 407:={}
instance:bC prog 408:={}
instance:bC prog 409:={}
instance:bC prog 410:={}
instance:bC prog 411:={}
instance:bC prog 412:={}
instance:bC prog 413:={}
end Go.Proofs.YtkfpleidaoaonaaGreatDoor
namespace Go.Mw
open Go.RowKit
section
variable {P:Program} {r:Option Nat} {n:Nat} {ops:AO} {Q:Post} {rest:LO} {σ:St} {w w0:Wd} {S:NP} {rs:List HP} {ty:Td} {pos:String} {after:Array Edge}
def VK (P:Program) (l:Nat) (xs:LV) (w:Wd) (R:Bool->Wd->Prop):Prop:=
 ∃fn tmps assign body,(Instr.yield l xs.toArray).run P w=.ok (.round l fn tmps assign body) w/\RoundIn (fen none) 0 P l fn tmps assign body w (Ret λv w'=>∃b,v=.bool b/\R b w')
theorem EM {d l:Nat} {y:Od} {xs:List Od} {ats:Array Td} {vals:LV} {R:Bool->Wd->Prop} (hy:evF σ y=.func (.yield l) #[] #[]) (hc:VK P l vals w R)
    (hv:xs.map (evF σ)=vals) (hd:Nat.blt d n=true) (h: ∀b w',R b w'->FL P r n ops Q rest (upd σ d (.bool b)) w'):
    FL P r n ops Q (⟨some d,.call {callee:=.value y,args:=xs.toArray,argTypes:=ats},ty,pos,after,none⟩::rest) σ w:=λa ha=>
  wpListIn_plain rfl λK hK=>by
    obtain⟨fn,tmps,assign,body,jG,Lv⟩:=hc;refine⟨λ_ _=>trivial,?_⟩;rw[Oper.semAt_eq _ _ _ (λ_ h=>by cases h),ha.eval]
    have e:(execOp (evF σ) ⟨some d,.call {callee:=.value y,args:=xs.toArray,argTypes:=ats},ty,pos,after,none⟩).run P w=.ok (.round l fn tmps assign body) w:=by
      simp[execOp,resolve,hy,Deferred.ofValue,invoke,hv,jG]
    rw[e,Oper.uponIn_round];refine⟨(λh=>by cases h),RoundIn.mono (F:=fen r) Lv λen w'' hr=>?_⟩;cases en with
    | returned v=>obtain⟨b,rfl,hR⟩:=hr;exact hK _ _ (h b w'' hR _ (ha.put (zbc hd) _))
    | _=>exact hr.elim

def aa8 (K Kr:Wd->Prop):Post:=λe _ w=>match e with
 | .normal=>K w
 | .ret=>Kr w
 | _=>False
theorem FR {K Kr:Wd->Prop} (h:K w):aa8 K Kr .normal σ w:=h
theorem BZ {K Kr:Wd->Prop} (h:Kr w):aa8 K Kr .ret σ w:=h

theorem ahB {l:List ResultVar} {R:Value->Wd->Prop} {vs:LV} {D:Nat} {put:HP->List HP} (H:Sep w0 S rs w) (hat:At rs (Mw.obj D (.deferred (some []))) put) (hR: ∀w',Sep w0 S (put (Mw.obj D (.deferred none))) w'->R (fH vs) w')
    (h:oO σ l=some vs:=by simp only[oO,zdf,upd_same,upd_ne,ne_eq,Nat.reduceEqDiff,not_false_eq_true];rfl) (hd:σ.ds=[{target:=.collected D,args:= #[]}]:=by exact rfl):Qfn l R .ret σ w:=
  XY (l:=l) (R:=R) H hat hR h hd
end
section
variable {P:Program} {r:Option Nat} {n:Nat} {ops:AO} {Q:Post} {lv:List Bool} {pd pd':LNB} {rest:LO} {σ:St} {w w' w0:Wd} {S F:NP} {rs:List HP} {put:HP->List HP} {op:Op} {ty:Td} {pos:String} {after:Array Edge} {guard:Option (Nat×Bool)}
theorem Gives.aom {ρ:Od->Value} {x y:Od} {t e:Td} [hs:dD P t e] {bytes:Nat} [hc:Cells P e 1 bytes] {z:Value} [hz:Zero P e z] {k:Nat} (hx:ρ x=.int .i64 k) (hy:ρ y=.int .i64 k) (hzc:z.cells= #[z]) (hb:bytes*k<=281474976710656) (hk:k<=maxLen):
    Gives P ρ (.makeSlice t x y) ty w (.slice (some ⟨w.heap.size,0,none⟩) k k) (w.alloc (.cells (List.replicate k z).toArray e)):=λ_ _ _ _=>by
  obtain⟨i,hi,uD⟩:=zbb.1 hc.size;simp only[Prod.mk.injEq]at uD
  have yT:i.zero=some z:=by
    have:=hz.run w;simp[zeroValue,typeInfo,hi]at this;cases hq:i.zero with
    | none=>simp[hq]at this
    | some u=>simp[hq]at this;rw[this]
  have jG:=run_make (P:=P) w t e i z hs.und hi yT .i64 .i64 (k:Int) (k:Int) oM oM (by rw[uD.2,<-Int.natCast_mul];generalize bytes*k=q at hb ⊢;omega) (by unfold maxLen at hk;omega)
  have hcells:madeCells z.cells ((k:Int).toNat*i.size)=(List.replicate k z).toArray:=by
    rw[hzc,uD.1];have:=toList_madeCells_one z (k*1);simp only[zdv];rw[Nat.mul_one]at this ⊢;rw[<-this]
  rw[hcells]at jG;simp only[execOp,hx,hy,zbk,jG,zas,zbn,zdv]
theorem ahC {d:Nat} {x y:Od} {t e:Td} [hs:dD P t e] {bytes:Nat} [hc:Cells P e 1 bytes] {z:Value} [hz:Zero P e z] {k:Nat} (H:Sep w0 S rs w) (hk:k<=maxLen) (hb:bytes*k<=281474976710656) (hx:evF σ x=.int .i64 k:=by exact rfl) (hy:evF σ y=.int .i64 k:=by exact rfl) (hzc:z.cells= #[z]:=by exact rfl) (hd:Nat.blt d n=true:=by exact rfl)
    (h: ∀b w',Sep w0 S (blk b (List.replicate k z) e::rs) w'->Kept noB w w'->FL P r n ops Q rest (upd σ d (.slice (some ⟨b,0,none⟩) k k)) w'):
    FL P r n ops Q (⟨some d,.makeSlice t x y,ty,pos,after,none⟩::rest) σ w:=
  dU (Gives.aom hx hy hzc hb hk) hd (h _ _ (H.alloc _) (Kept.alloc _ _))
theorem Gives.conv {ρ:Od->Value} {x:Od} {s t:Td} {k j:IntKind} [hs:lF P s j] [ht:lF P t k] {a:Int} (hx:ρ x=.int j a):Gives P ρ (.convert s t x) ty w (.int k (k.wrap a)) w:=
 Gives.anM (by rw[hs.und];rfl) ht.und hx
theorem Gives.ale {ρ:Od->Value} {a:Addr} {x:Od} {T:Td} [h1:OneCell P T] {v:Value} (hx:ρ x=.pointer (some a)) (hc:w.cell? a=some v):Gives P ρ (.load T x) ty w v w:=λ_ _ _ _=>by
 simp[execOp,hx,Instr.loadAt,Instr.sureAddr,loadVar,h1.agg,hc]
theorem Gives.amn {ρ:Od->Value} {k:Nat} {a:Addr} {x:Od} {T:Td} [h1:Agg P T k] {us:LV} (hx:ρ x=.pointer (some a)) (hc: ∀j u,us[j]? =some u->w.cell? (a.add j)=some u) (hk:us.length=k):Gives P ρ (.load T x) ty w (.agg us.toArray) w:=λ_ _ _ _=>by
 have:=run_loadCells_list (P:=P) w a us hc;rw[hk]at this;simp[execOp,hx,Instr.loadAt,Instr.sureAddr,loadVar,h1.agg,h1.size,this]
end
def acI:Op->Bool
 | .buildSlice .. =>true
 | .makeSlice .. =>true
 | _=>false
def akc (ops:AO) (i:Nat):Bool:=match ops[i]? with
 | some o=>acI o.op
 | none=>false
def akd (ops:AO) (M:Nat):List Bool:=(List.range ops.size).map λi=>Nat.blt i M

section
variable (P:Program) (r:Option Nat) (n:Nat) (ops:AO) (Q:Post) (M:Nat) (w0:Wd) (S:NP) (rs:List HP) (β:Nat->Nat)
end

section
variable {P:Program} {r:Option Nat} {n:Nat} {ops:AO} {Q:Post} {M:Nat} {w0 w:Wd} {S:NP} {rs ps:List HP} {β:Nat->Nat} {σ:St} {k i:Nat} {op:Op} {ty:Td} {pos:String} {after:Array Edge} {guard:Option (Nat×Bool)}
def stA (ops:AO) (v:Nat->Value) (σ:St):Nat->St
 | 0=>σ
 | j+1=>uV (stA ops v σ j) (lU ops j) (v j)
def pcs (ops:AO) (β:Nat->Nat) (ob:Nat->Obj) (L:Nat->Bool):Nat->List HP
 | 0=>[]
 | j+1=>if(akc ops j&&L j)=true then obj (β j) (ob j)::pcs ops β ob L j else pcs ops β ob L j
theorem Tz {ob ob':Nat->Obj} {L L':Nat->Bool}: ∀{j:Nat},(∀x,x<j->ob x=ob' x/\(akc ops x&&L x)=(akc ops x&&L' x))->pcs ops β ob L j=pcs ops β ob' L' j
 | 0,_=>rfl
 | j+1,h=>by
  show(if _ then _ else _)=(if _ then _ else _)
  rw[Tz λx hx=>h x (Nat.lt_succ_of_lt hx),(h j (zfd j)).1,(h j (zfd j)).2]
theorem ahD {v:Nat->Value}: ∀{j:Nat},(stA ops v σ j).ds=σ.ds
 | 0=>rfl
 | j+1=>by show(uV (stA ops v σ j) _ _).ds=_;rw[Ji];exact ahD
theorem TA {v:Nat->Value} {x:Nat}: ∀{j:Nat},(∀i,i<j->lU ops i≠some x)->stA ops v σ j x=σ x
 | 0,_=>rfl
 | j+1,h=>by
  show uV (stA ops v σ j) _ _ x=_
  rw[jU (h j (zfd j))];exact TA λi hi=>h i (Nat.lt_succ_of_lt hi)
theorem ahE {v:Nat->Value} {d i:Nat} (hd:lU ops i=some d): ∀{j:Nat},i<j->(∀k,k<j->k≠i->lU ops k≠some d)->stA ops v σ j d=v i
 | 0,h,_=>zat h (zen _)
 | j+1,h,iF=>by
  show uV (stA ops v σ j) _ _ d=_
  by_cases hji:j=i
  .subst hji;rw[hd];exact upd_same _ _ _
  rw[jU (iF j (zfd j) hji)];exact ahE hd (Nat.lt_of_le_of_ne (Nat.le_of_lt_succ h) λe=>hji e.symm) λk hk=>iF k (Nat.lt_succ_of_lt hk)

def StepA (P:Program) (ops:AO) (w0:Wd) (S:NP) (rs:List HP) (β:Nat->Nat) (i:Nat) (σ:St) (v:Value) (ob:Obj):Prop:=
 ∃o,ops[i]? =some o/\if acI o.op=true then ∀w,Sep w0 S rs w->w.heap.size=β i->(execOp (evF σ) o).run P w=.ok (.value v) (w.alloc ob)else ∀w,Sep w0 S rs w->(execOp (evF σ) o).run P w=.ok (.value v) w

def Fits (ops:AO) (β:Nat->Nat):List Nat->NP
 | [],_=>True
 | i::s,N=>if akc ops i=true then β i=N/\Fits ops β s (N+1)else Fits ops β s N
structure CkA (ops:AO) (M:Nat):Prop where
 le:M<=ops.size
 ug: ∀i,i<M->∃o d,ops[i]? =some o/\o.guard=none/\o.dst=some d
 pr: ∀i,i<M->∀e∈pI ops i,e<i
 lk: ∀i,i<M->∀k,k<M->∀d,lU ops k=some d->d∈looks ops i->k∈pI ops i
 ds: ∀i,i<M->∀k,k<M->i≠k->∀d,lU ops k=some d->lU ops i≠some d
 ab: ∀j,M<=j->j<ops.size->∀i,i<M->i∈above ops j
structure aon (P:Program) (r:Option Nat) (n:Nat) (ops:AO) (Q:Post) (M:Nat) (w0:Wd) (S:NP) (rs:List HP) (σ:St) (lr:Array Bool) (a:Act) (w:Wd):Prop where
 sz:lr.size=ops.size
 cl: ∀i,lr.getD i false=true->∀e∈pI ops i,lr.getD e false=true
 hi: ∀j,M<=j->j<ops.size->lr.getD j true=false
 fut: ∀s:List Nat,s.Nodup->(∀i,i∈s↔i<M/\lr.getD i true=false)->∃β,Fits ops β s w.heap.size/\∃v ob,
  (∀j,j<M->StepA P ops w0 S rs β j (stA ops v σ j) (v j) (ob j))/\(∀w',Sep w0 S (pcs ops β ob (λ_=>true) M++rs) w'->FG P r n ops Q (akd ops M) [] (stA ops v σ M) w')/\
  (∃σr,Rep n σr a/\σr.ds=σ.ds/\(∀i,i<M->lr.getD i true=true->∀d,lU ops i=some d->σr d=v i)/\∀x,(∀i,i<M->lr.getD i true=true->lU ops i≠some x)->σr x=σ x)/\
  Sep w0 S (pcs ops β ob (λi=>lr.getD i true) M++rs) w

theorem aeI {i:Nat} (h:i<ops.size):(akd ops M).getD i true=Nat.blt i M:=by
 simp[akd,zau,h]
theorem aon.fin (fq:CkA ops M) {lr:Array Bool} {a:Act} {w:Wd} (h:aon P r n ops Q M w0 S rs σ lr a w) (lQ: ∀i,i<M->lr.getD i true=true):wpAnyIn (fen r) 0 P .any ops (lift n Q) (left ops lr) lr a w:=by
 obtain⟨β,_,v,ob,_,iq,⟨σr,Jc,ZL,ha,hb⟩,afC⟩:=h.fut [] List.nodup_nil (λi=>⟨(λhi=>by cases hi),λhi=>by have h2:=hi.2;rw[lQ i hi.1]at h2;cases h2⟩);rw[Tz (ob':=ob) (L':=λ_=>true) λx hx=>⟨rfl,by rw[lQ x hx]⟩]at afC
 have hσ:σr=stA ops v σ M:=by
  refine St.ab5 (λx=>?_) (by rw[ZL,ahD])
  by_cases hx: ∃i,i<M/\lU ops i=some x
  .obtain⟨i,hi,hd⟩:=hx
   rw[ha i hi (lQ i hi) x hd,ahE hd hi λk hk Qe=>fq.ds k hk i hi Qe x hd]
  have Kk: ∀i,i<M->lU ops i≠some x:=λi hi hd=>hx ⟨i,hi,hd⟩;rw[hb x λi hi _=>Kk i hi,TA Kk]
 subst hσ;refine iq w afC [] lr a ⟨(λ_ hp=>by cases hp),List.nodup_nil,List.Pairwise.nil,(λ_ hp=>by cases hp),(λ_ hp=>by cases hp),λi hi=>?_,h.sz,by simp[akd],h.cl,⟨_,Jc,rfl,λ_ _=>rfl⟩,(λ_ hp=>by cases hp),(λ_ hp=>by cases hp),(λ_ hp=>by cases hp)⟩;rw[aeI hi]
 rcases zdz i M with h1 | h1
 .rw[lQ i h1,show Nat.blt i M=true from by rw[Nat.blt_eq];exact h1];rfl
 rw[h.hi i h1 hi,show Nat.blt i M=false from by rw[<-zdm,Nat.blt_eq];omega];rfl
/-! The walk's rules,as scripts use them:j is the next one's number. -/
section
variable {op:Op} {ty:Td} {pos:String} {after:Array Edge} {guard:Option (Nat×Bool)} {k i:Nat} {β:Nat->Nat} {ps:List HP}
end
end
section
variable {w w' w0:Wd} {S:NP} {rs:List HP} {put:HP->List HP}
theorem Sep.acJ {E s n:Nat} {v:Value} {xs:LV} (h:Sep w0 S rs w) (hat:At rs (CJ E s v n xs) put) (hn:0<n):
    ∃g c rest,v=.slice (some ⟨g,0,none⟩) n c/\(xs++rest).length=c*s/\xs.length=n*s/\n<=c/\c<=maxLen/\Sep w0 S (put (blk g (xs++rest) E)) w:=by
  obtain⟨F,hp,hS,nA⟩:=h.focus hat;obtain⟨⟨hl,ho⟩,hF⟩:=hp
  rcases ho with⟨_,h0⟩ | ⟨g,c,cur,hv,_,hh,qQ,hmax,zV,tF⟩
  . omega
  have e:cur=(xs++cur.toList.drop (n*s)).toArray:=by
    rw[<-tF,zbx,Array.toArray_toList]
  refine⟨g,c,cur.toList.drop (n*s),hv,?_,hl,qQ,hmax,?_⟩
  . have:=zaw Array.size e
    rw[zV]at this;simpa using this.symm
  refine h.imp hat λF hF=>⟨λb=>?_,?_⟩
  . rw[hF.2 b,hv]
    simp[Value.ownBlock,eq_comm]
  show w.heap[g]? =some (.cells (xs++cur.toList.drop (n*s)).toArray E (0,0))
  rw[hh,<-e]
theorem Sep.acK {E s n c g:Nat} {xs rest:LV} (h:Sep w0 S rs w) (hat:At rs (blk g (xs++rest) E) put) (hc:(xs++rest).length=c*s) (hl:xs.length=n*s) (qQ:n<=c) (hm:c<=maxLen):
    Sep w0 S (put (CJ E s (.slice (some ⟨g,0,none⟩) n c) n xs)) w:=
  h.imp hat λF hF=>⟨⟨hl,.inr ⟨g,c,(xs++rest).toArray,rfl,zak _,hF.2,qQ,hm,by simpa using hc,by rw[<-hl];simp⟩⟩,λx=>by rw[hF.1 x];simp[Value.ownBlock,eq_comm]⟩
theorem aeJ {xs rest:LV} {i:Nat} {v:Value} (h:i<xs.length):(xs++rest).set i v=xs.set i v++rest:=by
 rw[List.set_append_left _ _ h]
end
section
variable {P:Program} {r:Option Nat} {n:Nat} {ops:AO} {Q:Post} {lv:List Bool} {pd pd':LNB} {rest:LO} {σ:St} {w w' w0:Wd} {S F:NP} {rs:List HP} {p q p0:HP} {put:HP->List HP} {op:Op} {ty:Td} {pos:String} {after:Array Edge} {guard:Option (Nat×Bool)}
end
open Extern.Stop (cell)
section gives
variable {P:Program} {ρ:Od->Value} {ty:Td} {w w':Wd} {x y z u:Od}
class aqG (P:Program) (t:Td):Prop where
 ok:P.eqGuardType P.depth t=false
theorem run_eqGuard_agg {op:BinOp} {t:Td} [h:aqG P t] {xs ys:Array Value} (x y:Od):(eqGuard op t x y (.agg xs) (.agg ys)).run P w=.ok () w:=by
 unfold eqGuard;cases op<;>simp[h.ok,run_program]
end gives

section cells
variable {P:Program} {w:Wd}
def uR (P:Program) (σ:St) (w:Wd):List ResultVar->LV->Prop
 | [],vs=>vs=[]
 | .tmp t::l,vs=>∃us,vs=σ t::us/\uR P σ w l us
 | .cell a t::l,vs=>∃v us ad,vs=v::us/\σ a=.pointer (some ad)/\(loadVar t ad).run P w=.ok v w/\uR P σ w l us
theorem QW {σ:St} (g:ResultVar->Sem Value) (hg: ∀t,g (.tmp t)=pure (σ t)) (hc: ∀a t,g (.cell a t)=(do loadVar t (<-asAddr (σ a)))): ∀(l:List ResultVar) (vs:LV),uR P σ w l vs->
    (List.mapM g l).run P w=.ok vs w:=by
  intro l
  induction l with
  | nil=>intro vs h;have h:vs=[]:=h;subst h;rfl
  | cons r l ih=>
    intro vs h;cases r with
    | cell a t=>
      obtain⟨v,us,ad,rfl,h1,h2,h3⟩:=h;rw[List.mapM_cons,hc,h1];simp[asAddr,h2,ih us h3]
    | tmp t=>
      obtain⟨us,rfl,h3⟩:=h;rw[List.mapM_cons,hg];simp[ih us h3]
theorem xD {fn:Func} {tmps:Array Value} {σ:St} (hσ: ∀i,tmps.getD i undef=σ i) {l:List ResultVar} (hl:fn.results=l.toArray) {vs:LV} (h:uR P σ w l vs):
    (results fn tmps).run P w=.ok (fH vs) w:=by
  unfold results;rw[hl,List.mapM_toArray]
  have:=QW (P:=P) (w:=w) (σ:=σ) (λ
    | .tmp t=>pure (tmps.getD t undef)
    | .cell a t=>do loadVar t (<-asAddr (tmps.getD a undef))) (λt=>by simp[hσ]) (λa t=>by simp[hσ]) l vs h
  rw[zbk,Sem.run_map];refine(zaw (λr=>(Result.andThen r _).andThen _) this).trans ?_;simp only[zas]
  match vs with
  | []=>simp[fH]
  | [v]=>simp[fH]
  | u::v::us=>simp[fH]
def aeK (P:Program) (l:List ResultVar) (R:Value->Wd->Prop):Post:=λe σ w=>match e with
 | .normal | .ret=>σ.ds=[]/\∃vs,uR P σ w l vs/\R (fH vs) w
 | _=>False
theorem aX {l:List ResultVar} {R:Value->Wd->Prop} {σ:St} (h: ∃vs,uR P σ w l vs/\R (fH vs) w) (hd:σ.ds=[]:=by exact rfl):aeK P l R .ret σ w:=⟨hd,h⟩
theorem zy {f:FuncId} {fn:Func} {c:Code} {args:LV} {R:Value->Wd->Prop} {n:Nat} {l:List ResultVar}
    (hf:P.funcs[f]? =some fn) (hb:fn.body=some c) (hn:fn.ntmps=n) (hl:fn.results=l.toArray) (Ga:Nat.ble args.length n=true)
    (h:FW P none n c (aeK P l R) (CU 0 args) w):aN P f args w R:=by
  have qQ:args.length<=n:=zbc Ga;refine(callsIn_wide (n:=0)).1 (callsIn_of_wp_marks (F:=fen none) hf hb trivial (Go.wpIn_mono (h _ ⟨?_,(Jj args 0).symm,λi=>?_⟩) ?_))
  . simp[hn];omega
  . rw[zZ]
    simp only[zak,if_true,zfk];simp only[zbm,zee];rw[zfl]
    split
    . simp
    rename_i hge;simp at hge;rw[zcs oM];rw[zef]
    split<;>rfl
  rintro e a' w' ⟨s,hs,hq⟩;cases e with
  | normal=>
    obtain⟨h0,vs,h1,h2⟩:=hq;show LeavesInM _ _ _ _ _ _ _ _ _
    rw[hs.defers,h0];exact⟨_,xD hs.get hl h1,h2⟩
  | ret=>
    obtain⟨h0,vs,h1,h2⟩:=hq;show LeavesInM _ _ _ _ _ _ _ _ _
    rw[hs.defers,h0];exact⟨_,xD hs.get hl h1,h2⟩
  | _=>exact hq.elim
section
variable {f:FuncId} {fn:Func} {c:Code} {R:Value->Wd->Prop} {n:Nat} {l:List ResultVar} (hf:P.funcs[f]? =some fn) (hb:fn.body=some c) (hn:fn.ntmps=n) (hl:fn.results=l.toArray)
include hf hb hn hl
theorem sI {a0:Value} (hk:Nat.ble 1 n=true) (h:FW P none n c (aeK P l R) (upd und 0 a0) w):aN P f [a0] w R:=zy hf hb hn hl hk h
theorem DR {a0 a1:Value} (hk:Nat.ble 2 n=true) (h:FW P none n c (aeK P l R) (upd (upd und 1 a1) 0 a0) w):aN P f [a0,a1] w R:=zy hf hb hn hl hk h
theorem VL {a0 a1 a2:Value} (hk:Nat.ble 3 n=true) (h:FW P none n c (aeK P l R) (upd (upd (upd und 2 a2) 1 a1) 0 a0) w):aN P f [a0,a1,a2] w R:=zy hf hb hn hl hk h
end
theorem tV {b o T k:Nat} [h1:Agg P T k] {cs us:LV} {E:Td} (hb:w.heap[b]? =some (.cells cs.toArray E (0,0))) (hu:(cs.drop o).take k=us) (hk:us.length=k):(loadVar T ⟨b,o,none⟩).run P w=.ok (.agg us.toArray) w:=by
 simp[loadVar,h1.agg,h1.size,zf hb hu hk]
end cells

section drawq
variable {P:Program} {r:Option Nat} {n:Nat} {ops:AO} {Q:Post} {lv:List Bool} {pd:LNB} {σ:St} {w w0:Wd} {S:NP} {rs:List HP} {ty:Td} {pos:String} {after:Array Edge} {guard:Option (Nat×Bool)}
theorem iZ (gT:fT n ops=true) (e:Nat) (pd':LNB) {d:Nat} {f:FuncId} {xs:List Od} {ats:Array Td} {vals:LV} {v:Value} [he:bC P f] (H:Sep w0 S rs w) (hc:aN P f vals w λv' w'=>v'=v/\Kept noB w w')
    (ho:ops[e]? =some ⟨some d,.call {callee:=.value (.func f),args:=xs.toArray,argTypes:=ats},ty,pos,after,guard⟩:=by exact rfl)
    (hw:Region.wanted ⟨some d,.call {callee:=.value (.func f),args:=xs.toArray,argTypes:=ats},ty,pos,after,guard⟩ (eD ops σ)=true:=by kernel_rfl) (hv:xs.map (evF σ)=vals:=by exact rfl) (fq:gY ops lv (pd.map (·.1)) e=true:=by kernel_rfl)
    (rC:pd.filter (λp=> !((above ops e).contains p.1))=pd':=by exact pD) (h: ∀w',Sep w0 S rs w'->Kept noB w w'->mI P ops (upd σ d v) w' pd'/\FG P r n ops Q (lv.set e true) pd' (upd σ d v) w'):FG P r n ops Q lv pd σ w:=
  fO gT e pd' ho hw hc hv fq rC λv' w' ⟨h1,h2⟩=>by subst h1;exact h w' (H.keep h2) h2
end drawq
theorem jB.mid {w:Wd} {A:OA} {n s:Nat} {xs:LV} (hr:jB w A n s xs) {l h cap:Nat} (hl:l<=h) (hh:h<=n) (hc:n<=cap):jB w (if cap=l then A else A.map (·.add (l*s))) (h-l) s ((xs.drop (l*s)).take ((h-l)*s)):=
 (hr.cut (k:=l) (cap:=cap) oM hc).take oM

def aoo (E:Nat) (v:Value) (n:Nat) (xs:LV):HP:=exH λx:Option (Nat×LV)×Nat=>match x with
 | (none,c)=>jI (v=.slice none n c/\n=0/\xs=[])
 | (some (g,rest),c)=>star (jI (v=.slice (some ⟨g,0,none⟩) n c/\xs.length=n/\n<=c)) (blk g (xs++rest) E)
section pre
variable {w0 w w':Wd} {S:NP} {rs:List HP} {put:HP->List HP}
theorem ake {E n c:Nat} {A:OA} {xs:LV} {F:NP} (h:(aoo E (.slice A n c) n xs).ok F w):jB w A n 1 xs:=by
 obtain⟨⟨_ | ⟨g,rest⟩,c'⟩,hx⟩:=h
 .obtain⟨⟨h1,h2,h3⟩,_⟩:=hx
  subst h2 h3;exact jB.nil _ _ _
 obtain⟨F1,F2,hF,hd,⟨⟨h1,h2,h3⟩,_⟩,hb⟩:=hx;injection h1 with h1 _ _
 subst h1;refine⟨oM,λ_=>⟨_,rfl,λj u hu=>?_⟩⟩;rw[Addr.add_lit,zds,mY hb.2,zce (zbd.1 hu).1];exact hu
theorem Sep.preRow {E n c:Nat} {A:OA} {xs:LV} (h:Sep w0 S rs w) (hat:At rs (aoo E (.slice A n c) n xs) put):jB w A n 1 xs:=by
 obtain⟨F,hp,_,_⟩:=h.focus hat;exact ake hp
end pre
end Go.Mw
