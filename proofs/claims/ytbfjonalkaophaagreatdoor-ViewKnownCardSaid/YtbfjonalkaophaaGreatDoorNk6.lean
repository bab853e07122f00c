/-
 Made by program:what the translation's tables say of the types and functions that its code uses.
-/
import Derived.Test.YtbfjonalkaophaaGreatDoorProg
import Derived.Test.YtbfjonalkaophaaGreatDoorNk3
import Derived.Lib.ValidLaws
import Derived.Lib.ItoaNum
import Derived.Lib.ParseIntBTie
import Derived.Lib.Bytealg
set_option linter.all false
namespace Go.Proofs.Mw
open Go.Proofs.Tryz Go.Lib
abbrev Oa:=@OneCell prog
abbrev Za:=@Zero prog
abbrev Ca:=@Cells prog
abbrev Ia:=@nO prog
abbrev Aa:=@Agg prog
abbrev Ib:=@dR prog
abbrev Ic:=@aaj prog
abbrev Id:=@zI prog
abbrev Ba:=@af4 prog
abbrev Fa:=@Cq prog
instance:Oa 1:={}
instance:Za 1 (Value.nilFunc):={}
instance:Ca 1 1 8:={}
instance alC:Oa 2:={}
instance:Za 2 (Value.int .i64 0):={}
instance:Ca 2 1 8:={}
instance:Ia 2 .i64:={}
instance aj5:Oa 3:={}
instance:Za 3 (Value.int .i64 0):={}
instance:Ca 3 1 8:={}
instance:Ia 3 .i64:={}
instance alD:Oa 4:={}
instance:Za 4 (Value.bool false):={}
instance:Ca 4 1 1:={}
instance:XV prog 4:={}
instance:Oa 5:={}
instance:Za 5 (Value.int .u8 0):={}
instance:Ca 5 1 1:={}
instance:Ia 5 .u8:={}
instance:Oa 6:={}
instance:Za 6 (Value.int .u8 0):={}
instance:Ca 6 1 1:={}
instance:Ia 6 .u8:={}
instance:Aa 7 4:={}
instance:Za 7 (Value.agg #[Value.int .i64 0,Value.int .i64 0,Value.bool false,Value.int .u8 0]):={}
instance:Ca 7 4 24:={}
instance aj6:Oa 9:={}
instance:Za 9 (Value.string .empty):={}
instance:Ca 9 1 16:={}
instance:mD prog 9:={}
instance:Oa 12:={}
instance:Za 12 (Value.int .u64 0):={}
instance:Ca 12 1 8:={}
instance:Ia 12 .u64:={}
instance:Oa 20:={}
instance:Za 20 (Value.nilIface):={}
instance:Ca 20 1 16:={}
instance:Oa 21:={}
instance:Za 21 (Value.int .i32 0):={}
instance:Ca 21 1 4:={}
instance:Ia 21 .i32:={}
instance:Oa 22:={}
instance:Za 22 (Value.slice none 0 0):={}
instance:Ca 22 1 24:={}
instance:Ib 22 9:={}
instance:Oa 23:={}
instance:Za 23 (Value.slice none 0 0):={}
instance:Ca 23 1 24:={}
instance:Ib 23 48:={}
instance:Aa 25 2:={}
instance:Za 25 (Value.agg #[Value.slice none 0 0,Value.int .i64 0]):={}
instance:Ca 25 2 32:={}
instance:Oa 27:={}
instance:Za 27 (Value.slice none 0 0):={}
instance:Ca 27 1 24:={}
instance:Ib 27 25:={}
instance:Oa 28:={}
instance:Za 28 (Value.slice none 0 0):={}
instance:Ca 28 1 24:={}
instance:Ib 28 27:={}
instance:Oa 29:={}
instance:Za 29 (Value.slice none 0 0):={}
instance:Ca 29 1 24:={}
instance:Ib 29 41:={}
instance:Oa 30:={}
instance:Za 30 (Value.slice none 0 0):={}
instance:Ca 30 1 24:={}
instance:Ib 30 43:={}
instance:Aa 32 3:={}
instance:Za 32 (Value.agg #[Value.slice none 0 0,Value.slice none 0 0,Value.int .i64 0]):={}
instance:Ca 32 3 56:={}
instance:Oa 33:={}
instance:Za 33 (Value.int .i64 0):={}
instance:Ca 33 1 8:={}
instance:Ia 33 .i64:={}
instance:Oa 37:={}
instance:Za 37 (Value.slice none 0 0):={}
instance:Ca 37 1 24:={}
instance:Ib 37 50:={}
instance:Aa 41 3:={}
instance:Za 41 (Value.agg #[Value.int .i64 0,Value.int .i64 0,Value.string .empty]):={}
instance:Ca 41 3 32:={}
instance:Aa 43 2:={}
instance:Za 43 (Value.agg #[Value.string .empty,Value.slice none 0 0]):={}
instance:Ca 43 2 40:={}
instance:Oa 44:={}
instance:Za 44 (Value.slice none 0 0):={}
instance:Ca 44 1 24:={}
instance:Ib 44 32:={}
instance alE:Aa 46 2:={}
instance:Za 46 (Value.agg #[Value.int .i64 0,Value.bool false]):={}
instance:Ca 46 2 16:={}
instance alF:Aa 48 3:={}
instance:Za 48 (Value.agg #[Value.bool false,Value.int .i64 0,Value.string .empty]):={}
instance:Ca 48 3 32:={}
instance:Aa 50 7:={}
instance:Za 50 (Value.agg #[Value.int .i64 0,Value.string .empty,Value.int .i64 0,Value.bool false,Value.bool false,Value.int .i64 0,Value.string .empty]):={}
instance:Ca 50 7 72:={}
instance:Aa 53 4:={}
instance:Za 53 (Value.agg #[Value.slice none 0 0,Value.slice none 0 0,Value.int .i64 0,Value.int .i64 0]):={}
instance:Ca 53 4 64:={}
instance:Oa 54:={}
instance:Za 54 (Value.nilFunc):={}
instance:Ca 54 1 8:={}
instance:Oa 55:={}
instance:Za 55 (Value.nilFunc):={}
instance:Ca 55 1 8:={}
instance:Oa 59:={}
instance:Za 59 (Value.nilFunc):={}
instance:Ca 59 1 8:={}
instance:Oa 64:={}
instance:Za 64 (Value.pointer none):={}
instance:Ca 64 1 8:={}
instance:Ic 64:=⟨_,(by kernel_rfl:Program.underlying _ _=some (.pointer 126))⟩
instance:Oa 67:={}
instance:Za 67 (Value.pointer none):={}
instance:Ca 67 1 8:={}
instance:Ic 67:=⟨_,(by kernel_rfl:Program.underlying _ _=some (.pointer 73))⟩
instance:Aa 73 6:={}
instance:Za 73 (Value.agg #[Value.slice none 0 0,Value.slice none 0 0,Value.slice none 0 0,Value.int .i64 0,Value.slice none 0 0,Value.slice none 0 0]):={}
instance:Ca 73 6 128:={}
instance:Oa 83:={}
instance:Za 83 (Value.slice none 0 0):={}
instance:Ca 83 1 24:={}
instance:Ib 83 3:={}
instance:Oa 86:={}
instance:Za 86 (Value.nilFunc):={}
instance:Ca 86 1 8:={}
instance:Oa 87:={}
instance:Za 87 (Value.nilFunc):={}
instance:Ca 87 1 8:={}
instance:Oa 91:={}
instance:Za 91 (Value.pointer none):={}
instance:Ca 91 1 8:={}
instance:Ic 91:=⟨_,(by kernel_rfl:Program.underlying _ _=some (.pointer 53))⟩
instance:Oa 97:={}
instance:Za 97 (Value.nilIface):={}
instance:Ca 97 1 16:={}
instance:Oa 107:={}
instance:Za 107 (Value.pointer none):={}
instance:Ca 107 1 8:={}
instance:Ic 107:=⟨_,(by kernel_rfl:Program.underlying _ _=some (.pointer 109))⟩
instance:Aa 109 1:={}
instance:Za 109 (Value.agg #[Value.slice none 0 0]):={}
instance:Ca 109 1 24:={}
instance:Oa 111:={}
instance:Za 111 (Value.nilIface):={}
instance:Ca 111 1 16:={}
instance:Oa 115:={}
instance:Za 115 (Value.int .u32 0):={}
instance:Ca 115 1 4:={}
instance:Ia 115 .u32:={}
instance:Aa 117 1:={}
instance:Za 117 (Value.agg #[Value.int .u32 0]):={}
instance:Ca 117 1 4:={}
instance:Aa 119 2:={}
instance:Za 119 (Value.agg #[Value.int .i32 0,Value.int .u32 0]):={}
instance:Ca 119 2 8:={}
instance:Aa 121 2:={}
instance:Za 121 (Value.agg #[Value.int .i32 0,Value.int .u32 0]):={}
instance:Ca 121 2 8:={}
instance:Aa 123 3:={}
instance:Za 123 (Value.agg #[Value.int .u32 0,Value.int .i32 0,Value.int .u32 0]):={}
instance:Ca 123 3 12:={}
instance:Oa 124:={}
instance:Za 124 (Value.nilFunc):={}
instance:Ca 124 1 8:={}
instance:Aa 126 10:={}
instance:Za 126 (Value.agg #[Value.slice none 0 0,Value.slice none 0 0,Value.slice none 0 0,Value.int .i64 0,Value.slice none 0 0,Value.nilIface,Value.int .u32 0,Value.int .i32 0,Value.int .u32 0,Value.nilFunc]):={}
instance:Ca 126 10 144:={}
instance:Oa 127:={}
instance:Za 127 (Value.pointer none):={}
instance:Ca 127 1 8:={}
instance:Ic 127:=⟨_,(by kernel_rfl:Program.underlying _ _=some (.pointer 166))⟩
instance:Oa 130:={}
instance:Za 130 (Value.pointer none):={}
instance:Ca 130 1 8:={}
instance:Ic 130:=⟨_,(by kernel_rfl:Program.underlying _ _=some (.pointer 132))⟩
instance:Aa 132 2:={}
instance:Za 132 (Value.agg #[Value.pointer none,Value.int .i64 0]):={}
instance:Ca 132 2 16:={}
instance:Oa 137:={}
instance:Za 137 (Value.nilFunc):={}
instance:Ca 137 1 8:={}
instance:Oa 139:={}
instance:Za 139 (Value.slice none 0 0):={}
instance:Ca 139 1 24:={}
instance:Ib 139 25:={}
instance:Oa 140:={}
instance:Za 140 (Value.nilFunc):={}
instance:Ca 140 1 8:={}
instance:Oa 150:={}
instance:Za 150 (Value.nilFunc):={}
instance:Ca 150 1 8:={}
instance:Oa 151:={}
instance:Za 151 (Value.map none):={}
instance:Ca 151 1 8:={}
instance:IsMap prog 151 9 3:={}
instance:Oa 154:={}
instance:Za 154 (Value.pointer none):={}
instance:Ca 154 1 8:={}
instance:Ic 154:=⟨_,(by kernel_rfl:Program.underlying _ _=some (.pointer 157))⟩
instance:Oa 155:={}
instance:Za 155 (Value.slice none 0 0):={}
instance:Ca 155 1 24:={}
instance:Ib 155 5:={}
instance:Aa 157 2:={}
instance:Za 157 (Value.agg #[Value.pointer none,Value.slice none 0 0]):={}
instance:Ca 157 2 32:={}
instance:Oa 163:={}
instance:Za 163 (Value.nilFunc):={}
instance:Ca 163 1 8:={}
instance:Oa 164:={}
instance:Za 164 (Value.map none):={}
instance:Ca 164 1 8:={}
instance:IsMap prog 164 9 437:={}
instance:Aa 166 4:={}
instance:Za 166 (Value.agg #[Value.bool false,Value.int .i64 0,Value.int .i64 0,Value.map none]):={}
instance:Ca 166 4 32:={}
instance:Oa 168:={}
instance:Za 168 (Value.pointer none):={}
instance:Ca 168 1 8:={}
instance:Ic 168:=⟨_,(by kernel_rfl:Program.underlying _ _=some (.pointer 123))⟩
instance:Oa 169:={}
instance:Za 169 (Value.nilFunc):={}
instance:Ca 169 1 8:={}
instance:Oa 172:={}
instance:Za 172 (Value.nilFunc):={}
instance:Ca 172 1 8:={}
instance:Oa 173:={}
instance:Za 173 (Value.slice none 0 0):={}
instance:Ca 173 1 24:={}
instance:Ib 173 169:={}
instance:Oa 175:={}
instance:Za 175 (Value.pointer none):={}
instance:Ca 175 1 8:={}
instance:Ic 175:=⟨_,(by kernel_rfl:Program.underlying _ _=some (.pointer 252))⟩
instance:Oa 178:={}
instance:Za 178 (Value.slice none 0 0):={}
instance:Ca 178 1 24:={}
instance:Ib 178 180:={}
instance:Aa 180 3:={}
instance:Za 180 (Value.agg #[Value.slice none 0 0,Value.slice none 0 0,Value.int .i64 0]):={}
instance:Ca 180 3 56:={}
instance ZK:Oa 187:={}
instance:Za 187 (Value.int .u64 0):={}
instance:Ca 187 1 8:={}
instance:Ia 187 .u64:={}
instance:Aa 189 3:={}
instance:Za 189 (Value.agg #[Value.int .u64 0,Value.int .u64 0,Value.int .u64 0]):={}
instance:Ca 189 3 24:={}
instance:Oa 193:={}
instance:Za 193 (Value.nilFunc):={}
instance:Ca 193 1 8:={}
instance:Oa 198:={}
instance:Za 198 (Value.int .u64 0):={}
instance:Ca 198 1 8:={}
instance:Ia 198 .u64:={}
instance:Oa 202:={}
instance:Za 202 (Value.int .i64 0):={}
instance:Ca 202 1 8:={}
instance:Ia 202 .i64:={}
instance:Oa 205:={}
instance:Za 205 (Value.pointer none):={}
instance:Ca 205 1 8:={}
instance:Ic 205:=⟨_,(by kernel_rfl:Program.underlying _ _=some (.pointer 289))⟩
instance:Aa 211 256:={}
instance:Za 211 (Value.agg (List.replicate 256 (Value.bool false)).toArray):={}
instance:Ca 211 256 256:={}
instance:Id 211 256 4:={}
instance:Oa 215:={}
instance:Za 215 (Value.pointer none):={}
instance:Ca 215 1 8:={}
instance:Ic 215:=⟨_,(by kernel_rfl:Program.underlying _ _=some (.pointer 211))⟩
instance:Oa 223:={}
instance:Za 223 (Value.pointer none):={}
instance:Ca 223 1 8:={}
instance:Ic 223:=⟨_,(by kernel_rfl:Program.underlying _ _=some (.pointer 5))⟩
instance:Oa 224:={}
instance:Za 224 (Value.slice none 0 0):={}
instance:Ca 224 1 24:={}
instance:Ib 224 46:={}
instance:Aa 226 1:={}
instance:Za 226 (Value.agg #[Value.slice none 0 0]):={}
instance:Ca 226 1 24:={}
instance:Oa 234:={}
instance:Za 234 (Value.nilFunc):={}
instance:Ca 234 1 8:={}
instance:Oa 236:={}
instance:Za 236 (Value.pointer none):={}
instance:Ca 236 1 8:={}
instance:Ic 236:=⟨_,(by kernel_rfl:Program.underlying _ _=some (.pointer 117))⟩
instance:Oa 238:={}
instance:Za 238 (Value.pointer none):={}
instance:Ca 238 1 8:={}
instance:Ic 238:=⟨_,(by kernel_rfl:Program.underlying _ _=some (.pointer 115))⟩
instance:Aa 241 1:={}
instance:Za 241 (Value.agg #[Value.slice none 0 0]):={}
instance:Ca 241 1 24:={}
instance:Oa 249:={}
instance:Za 249 (Value.nilFunc):={}
instance:Ca 249 1 8:={}
instance:Oa 250:={}
instance:Za 250 (Value.slice none 0 0):={}
instance:Ca 250 1 24:={}
instance:Ib 250 257:={}
instance:Aa 252 3:={}
instance:Za 252 (Value.agg #[Value.int .i64 0,Value.int .i64 0,Value.slice none 0 0]):={}
instance:Ca 252 3 40:={}
instance:Oa 255:={}
instance:Za 255 (Value.slice none 0 0):={}
instance:Ca 255 1 24:={}
instance:Ib 255 2:={}
instance:Aa 257 3:={}
instance:Za 257 (Value.agg #[Value.slice none 0 0,Value.int .i64 0,Value.slice none 0 0]):={}
instance:Ca 257 3 56:={}
instance:Oa 261:={}
instance:Za 261 (Value.slice none 0 0):={}
instance:Ca 261 1 24:={}
instance:Ib 261 262:={}
instance:Aa 262 2:={}
instance:Za 262 (Value.agg #[Value.int .i64 0,Value.int .i64 0]):={}
instance:Ca 262 2 16:={}
instance:Id 262 2 2:={}
instance:Oa 269:={}
instance:Za 269 (Value.int .i64 0):={}
instance:Ca 269 1 8:={}
instance:Ia 269 .i64:={}
instance:Aa 289 3:={}
instance:Za 289 (Value.agg #[Value.string .empty,Value.string .empty,Value.nilIface]):={}
instance:Ca 289 3 48:={}
instance:Aa 291 24:={}
instance:Za 291 (Value.agg (List.replicate 24 (Value.int .u8 0)).toArray):={}
instance:Ca 291 24 24:={}
instance:Id 291 24 5:={}
instance:Oa 300:={}
instance:Za 300 (Value.nilFunc):={}
instance:Ca 300 1 8:={}
instance:Oa 301:={}
instance:Za 301 (Value.nilFunc):={}
instance:Ca 301 1 8:={}
instance:Oa 302:={}
instance:Za 302 (Value.nilFunc):={}
instance:Ca 302 1 8:={}
instance:Aa 305 5:={}
instance:Za 305 (Value.agg #[Value.nilFunc,Value.nilFunc,Value.nilFunc,Value.nilFunc,Value.nilFunc]):={}
instance:Ca 305 5 40:={}
instance:Oa 308:={}
instance:Za 308 (Value.map none):={}
instance:Ca 308 1 8:={}
instance:IsMap prog 308 21 5:={}
instance:Oa 313:={}
instance:Za 313 (Value.pointer none):={}
instance:Ca 313 1 8:={}
instance:Oa 316:={}
instance:Za 316 (Value.pointer none):={}
instance:Ca 316 1 8:={}
instance:Ic 316:=⟨_,(by kernel_rfl:Program.underlying _ _=some (.pointer 226))⟩
instance:Aa 317 6:={}
instance:Za 317 (Value.agg #[Value.int .i64 0,Value.int .i64 0,Value.int .i64 0,Value.int .i64 0,Value.int .i64 0,Value.int .i64 0]):={}
instance:Ca 317 6 48:={}
instance:Id 317 6 3:={}
instance:Oa 320:={}
instance:Za 320 (Value.nilFunc):={}
instance:Ca 320 1 8:={}
instance:Oa 321:={}
instance:Za 321 (Value.pointer none):={}
instance:Ca 321 1 8:={}
instance:Ic 321:=⟨_,(by kernel_rfl:Program.underlying _ _=some (.pointer 121))⟩
instance:Oa 324:={}
instance:Za 324 (Value.pointer none):={}
instance:Ca 324 1 8:={}
instance:Ic 324:=⟨_,(by kernel_rfl:Program.underlying _ _=some (.pointer 241))⟩
instance:Oa 330:={}
instance:Za 330 (Value.nilFunc):={}
instance:Ca 330 1 8:={}
instance:Aa 333 6:={}
instance:Za 333 (Value.agg #[Value.int .u64 0,Value.int .u64 0,Value.int .u64 0,Value.int .u64 0,Value.int .u64 0,Value.int .u64 0]):={}
instance:Ca 333 6 48:={}
instance:Id 333 6 187:={}
instance:Oa 338:={}
instance:Za 338 (Value.slice none 0 0):={}
instance:Ca 338 1 24:={}
instance:Ib 338 189:={}
instance:Oa 344:={}
instance:Za 344 (Value.int .u64 0):={}
instance:Ca 344 1 8:={}
instance:Ia 344 .u64:={}
instance:Oa 348:={}
instance:Za 348 (Value.pointer none):={}
instance:Ca 348 1 8:={}
instance:Ic 348:=⟨_,(by kernel_rfl:Program.underlying _ _=some (.pointer 3))⟩
instance:Oa 352:={}
instance:Za 352 (Value.pointer none):={}
instance:Ca 352 1 8:={}
instance:Ic 352:=⟨_,(by kernel_rfl:Program.underlying _ _=some (.pointer 354))⟩
instance:Aa 354 3:={}
instance:Za 354 (Value.agg #[Value.string .empty,Value.int .i64 0,Value.int .i64 0]):={}
instance:Ca 354 3 32:={}
instance:Oa 358:={}
instance:Za 358 (Value.pointer none):={}
instance:Ca 358 1 8:={}
instance:Ic 358:=⟨_,(by kernel_rfl:Program.underlying _ _=some (.pointer 360))⟩
instance:Aa 360 1:={}
instance:Za 360 (Value.agg #[Value.string .empty]):={}
instance:Ca 360 1 16:={}
instance:Aa 362 20:={}
instance:Za 362 (Value.agg (List.replicate 20 (Value.int .u64 0)).toArray):={}
instance:Ca 362 20 160:={}
instance:Id 362 20 187:={}
instance:Aa 363 65:={}
instance:Za 363 (Value.agg (List.replicate 65 (Value.int .u8 0)).toArray):={}
instance:Ca 363 65 65:={}
instance:Id 363 65 5:={}
instance:Oa 365:={}
instance:Za 365 (Value.nilFunc):={}
instance:Ca 365 1 8:={}
instance:Aa 366 30:={}
instance:Za 366 (Value.agg (List.replicate 30 (Value.nilFunc)).toArray):={}
instance:Ca 366 30 240:={}
instance:Id 366 6 305:={}
instance:Oa 372:={}
instance:Za 372 (Value.pointer none):={}
instance:Ca 372 1 8:={}
instance:Ic 372:=⟨_,(by kernel_rfl:Program.underlying _ _=some (.pointer 119))⟩
instance:Oa 374:={}
instance:Za 374 (Value.pointer none):={}
instance:Ca 374 1 8:={}
instance:Ic 374:=⟨_,(by kernel_rfl:Program.underlying _ _=some (.pointer 21))⟩
instance:Oa 390:={}
instance:Za 390 (Value.nilFunc):={}
instance:Ca 390 1 8:={}
instance:Oa 391:={}
instance:Za 391 (Value.pointer none):={}
instance:Ca 391 1 8:={}
instance:Ic 391:=⟨_,(by kernel_rfl:Program.underlying _ _=some (.pointer 344))⟩
instance:Aa 396 256:={}
instance:Za 396 (Value.agg (List.replicate 256 (Value.int .u8 0)).toArray):={}
instance:Ca 396 256 256:={}
instance:Id 396 256 5:={}
instance:Aa 398 2:={}
instance:Za 398 (Value.agg #[Value.int .u8 0,Value.int .u8 0]):={}
instance:Ca 398 2 2:={}
instance:Aa 399 32:={}
instance:Za 399 (Value.agg (List.replicate 32 (Value.int .u8 0)).toArray):={}
instance:Ca 399 32 32:={}
instance:Id 399 16 398:={}
instance:Aa 400 8:={}
instance:Za 400 (Value.agg (List.replicate 8 (Value.int .u8 0)).toArray):={}
instance:Ca 400 8 8:={}
instance:Id 400 8 5:={}
instance:Aa 411 32:={}
instance:Za 411 (Value.agg (List.replicate 32 (Value.int .u8 0)).toArray):={}
instance:Ca 411 32 32:={}
instance:Id 411 32 5:={}
instance:Aa 412 64:={}
instance:Za 412 (Value.agg (List.replicate 64 (Value.int .u8 0)).toArray):={}
instance:Ca 412 64 64:={}
instance:Id 412 64 5:={}
instance:Oa 426:={}
instance:Za 426 (Value.slice none 0 0):={}
instance:Ca 426 1 24:={}
instance:Ib 426 427:={}
instance:Aa 427 3:={}
instance:Za 427 (Value.agg #[Value.slice none 0 0,Value.slice none 0 0,Value.int .i64 0]):={}
instance:Ca 427 3 56:={}
instance:Oa 430:={}
instance:Za 430 (Value.nilFunc):={}
instance:Ca 430 1 8:={}
instance:Oa 431:={}
instance:Za 431 (Value.map none):={}
instance:Ca 431 1 8:={}
instance:IsMap prog 431 9 433:={}
instance:Oa 433:={}
instance:Za 433 (Value.pointer none):={}
instance:Ca 433 1 8:={}
instance:Ic 433:=⟨_,(by kernel_rfl:Program.underlying _ _=some (.pointer 435))⟩
instance:Aa 435 2:={}
instance:Za 435 (Value.agg #[Value.slice none 0 0,Value.slice none 0 0]):={}
instance:Ca 435 2 48:={}
instance:Aa 437 2:={}
instance:Za 437 (Value.agg #[Value.slice none 0 0,Value.slice none 0 0]):={}
instance:Ca 437 2 48:={}
instance:Oa 440:={}
instance:Za 440 (Value.nilFunc):={}
instance:Ca 440 1 8:={}
instance:Oa 441:={}
instance:Za 441 (Value.nilFunc):={}
instance:Ca 441 1 8:={}
instance:Oa 446:={}
instance:Za 446 (Value.nilFunc):={}
instance:Ca 446 1 8:={}
instance:Oa 449:={}
instance:Za 449 (Value.nilFunc):={}
instance:Ca 449 1 8:={}
instance:Ba 25 ((Value.slice none 0 0)::(Value.int .i64 0)::[]) [(0,1),(1,1)]:=⟨λ_=>kR,_,underlying25,λ_=>kR⟩
instance:Ba 32 ((Value.slice none 0 0)::(Value.slice none 0 0)::(Value.int .i64 0)::[]) [(0,1),(1,1),(2,1)]:=⟨λ_=>kR,_,underlying32,λ_=>kR⟩
instance:Ba 41 ((Value.int .i64 0)::(Value.int .i64 0)::(Value.string .empty)::[]) [(0,1),(1,1),(2,1)]:=⟨λ_=>kR,_,underlying41,λ_=>kR⟩
instance:Ba 43 ((Value.string .empty)::(Value.slice none 0 0)::[]) [(0,1),(1,1)]:=⟨λ_=>kR,_,underlying43,λ_=>kR⟩
instance:Ba 46 ((Value.int .i64 0)::(Value.bool false)::[]) [(0,1),(1,1)]:=⟨λ_=>kR,_,underlying46,λ_=>kR⟩
instance:Ba 48 ((Value.bool false)::(Value.int .i64 0)::(Value.string .empty)::[]) [(0,1),(1,1),(2,1)]:=⟨λ_=>kR,_,underlying48,λ_=>kR⟩
instance:Ba 50 ((Value.int .i64 0)::(Value.string .empty)::(Value.int .i64 0)::(Value.bool false)::(Value.bool false)::(Value.int .i64 0)::(Value.string .empty)::[]) [(0,1),(1,1),(2,2),(4,3)]:=⟨λ_=>kR,_,underlying50,λ_=>kR⟩
instance:Ba 73 ((Value.slice none 0 0)::(Value.slice none 0 0)::(Value.slice none 0 0)::(Value.int .i64 0)::(Value.slice none 0 0)::(Value.slice none 0 0)::[]) [(0,1),(1,3),(4,1),(5,1)]:=⟨λ_=>kR,_,underlying73,λ_=>kR⟩
instance:Ba 109 ((Value.slice none 0 0)::[]) [(0,1)]:=⟨λ_=>kR,_,underlying109,λ_=>kR⟩
instance:Ba 126 ((Value.slice none 0 0)::(Value.slice none 0 0)::(Value.slice none 0 0)::(Value.int .i64 0)::(Value.slice none 0 0)::(Value.nilIface)::(Value.int .u32 0)::(Value.int .i32 0)::(Value.int .u32 0)::(Value.nilFunc)::[]) [(0,1),(1,3),(4,1),(5,1),(6,3),(9,1)]:=⟨λ_=>kR,_,underlying126,λ_=>kR⟩
instance:Ba 132 ((Value.pointer none)::(Value.int .i64 0)::[]) [(0,1),(1,1)]:=⟨λ_=>kR,_,underlying132,λ_=>kR⟩
instance:Ba 166 ((Value.bool false)::(Value.int .i64 0)::(Value.int .i64 0)::(Value.map none)::[]) [(0,1),(1,1),(2,1),(3,1)]:=⟨λ_=>kR,_,underlying166,λ_=>kR⟩
instance:Ba 180 ((Value.slice none 0 0)::(Value.slice none 0 0)::(Value.int .i64 0)::[]) [(0,1),(1,1),(2,1)]:=⟨λ_=>kR,_,underlying180,λ_=>kR⟩
instance:Ba 189 ((Value.int .u64 0)::(Value.int .u64 0)::(Value.int .u64 0)::[]) [(0,1),(1,1),(2,1)]:=⟨λ_=>kR,_,underlying189,λ_=>kR⟩
instance:Ba 252 ((Value.int .i64 0)::(Value.int .i64 0)::(Value.slice none 0 0)::[]) [(0,1),(1,1),(2,1)]:=⟨λ_=>kR,_,underlying252,λ_=>kR⟩
instance:Ba 257 ((Value.slice none 0 0)::(Value.int .i64 0)::(Value.slice none 0 0)::[]) [(0,1),(1,1),(2,1)]:=⟨λ_=>kR,_,underlying257,λ_=>kR⟩
instance:Ba 289 ((Value.string .empty)::(Value.string .empty)::(Value.nilIface)::[]) [(0,1),(1,1),(2,1)]:=⟨λ_=>kR,_,underlying289,λ_=>kR⟩
instance:Ba 305 ((Value.nilFunc)::(Value.nilFunc)::(Value.nilFunc)::(Value.nilFunc)::(Value.nilFunc)::[]) [(0,1),(1,1),(2,1),(3,1),(4,1)]:=⟨λ_=>kR,_,underlying305,λ_=>kR⟩
instance:Ba 354 ((Value.string .empty)::(Value.int .i64 0)::(Value.int .i64 0)::[]) [(0,1),(1,1),(2,1)]:=⟨λ_=>kR,_,underlying354,λ_=>kR⟩
instance:Ba 360 ((Value.string .empty)::[]) [(0,1)]:=⟨λ_=>kR,_,underlying360,λ_=>kR⟩
instance:Ba 398 ((Value.int .u8 0)::(Value.int .u8 0)::[]) [(0,1),(1,1)]:=⟨λ_=>kR,_,underlying398,λ_=>kR⟩
instance:Ba 427 ((Value.slice none 0 0)::(Value.slice none 0 0)::(Value.int .i64 0)::[]) [(0,1),(1,1),(2,1)]:=⟨λ_=>kR,_,underlying427,λ_=>kR⟩
instance:Ba 435 ((Value.slice none 0 0)::(Value.slice none 0 0)::[]) [(0,1),(1,1)]:=⟨λ_=>kR,_,underlying435,λ_=>kR⟩
instance:Ba 437 ((Value.slice none 0 0)::(Value.slice none 0 0)::[]) [(0,1),(1,1)]:=⟨λ_=>kR,_,underlying437,λ_=>kR⟩
instance:Fa 25 0 0:={}
instance:Fa 25 1 1:={}
instance:Fa 32 0 0:={}
instance:Fa 32 1 1:={}
instance:Fa 32 2 2:={}
instance:Fa 41 0 0:={}
instance:Fa 41 1 1:={}
instance:Fa 41 2 2:={}
instance:Fa 43 0 0:={}
instance:Fa 43 1 1:={}
instance:Fa 46 0 0:={}
instance:Fa 46 1 1:={}
instance:Fa 48 0 0:={}
instance:Fa 48 1 1:={}
instance:Fa 48 2 2:={}
instance:Fa 50 0 0:={}
instance:Fa 50 2 2:={}
instance:Fa 53 0 0:={}
instance:Fa 53 1 3:={}
instance:Fa 73 0 0:={}
instance:Fa 73 1 1:={}
instance:Fa 73 2 4:={}
instance:Fa 73 3 5:={}
instance:Fa 109 0 0:={}
instance:Fa 117 1 0:={}
instance:Fa 119 0 0:={}
instance:Fa 119 1 1:={}
instance:Fa 121 1 0:={}
instance:Fa 123 1 0:={}
instance:Fa 123 2 1:={}
instance:Fa 126 0 0:={}
instance:Fa 126 1 1:={}
instance:Fa 126 2 4:={}
instance:Fa 126 3 5:={}
instance:Fa 126 4 6:={}
instance:Fa 126 5 9:={}
instance:Fa 132 0 0:={}
instance:Fa 132 1 1:={}
instance:Fa 157 0 0:={}
instance:Fa 157 1 1:={}
instance:Fa 166 0 0:={}
instance:Fa 166 1 1:={}
instance:Fa 166 2 2:={}
instance:Fa 166 3 3:={}
instance:Fa 180 0 0:={}
instance:Fa 180 1 1:={}
instance:Fa 180 2 2:={}
instance:Fa 189 0 0:={}
instance:Fa 189 1 1:={}
instance:Fa 189 2 2:={}
instance:Fa 226 0 0:={}
instance:Fa 241 0 0:={}
instance:Fa 252 0 0:={}
instance:Fa 252 1 1:={}
instance:Fa 252 2 2:={}
instance:Fa 257 0 0:={}
instance:Fa 257 1 1:={}
instance:Fa 257 2 2:={}
instance:Fa 354 0 0:={}
instance:Fa 354 1 1:={}
instance:Fa 354 2 2:={}
instance:Fa 398 0 0:={}
instance:Fa 398 1 1:={}
instance:Fa 427 0 0:={}
instance:Fa 427 1 1:={}
instance:Fa 427 2 2:={}
instance:Fa 435 0 0:={}
instance:Fa 435 1 1:={}
instance:Fa 437 0 0:={}
instance:Fa 437 1 1:={}
instance:Di prog 305 0 0 300:=⟨_,underlying305,rfl⟩
instance:Di prog 305 1 1 301:=⟨_,underlying305,rfl⟩
instance:Di prog 305 2 2 302:=⟨_,underlying305,rfl⟩
instance:Di prog 437 1 1 255:=⟨_,underlying437,rfl⟩
def iI (l:L8):Option (Nat×Nat):=if l=[]\/((decodeL l).1=65533/\(decodeL l).2=1)then none else some (decodeL l)
def JJ (r:Int):Option (L8):=if r<0\/1114111<r\/(55296<=r/\r<=57343)then none else some (encodeRune r)
def yH:L8->Nat
 | [a]=>a.toNat
 | [a,b]=>64*(a.toNat%32)+b.toNat%64
 | [a,b,c]=>64*(64*(a.toNat%16)+b.toNat%64)+c.toNat%64
 | [a,b,c,d]=>64*(64*(64*(a.toNat%8)+b.toNat%64)+c.toNat%64)+d.toNat%64
 | _=>0
def okL (l:L8) (k:Nat):Prop:=JJ (yH (l.take k):Nat)=some (l.take k)
instance (l:L8) (k:Nat):Decidable (okL l k):=by unfold okL;infer_instance

variable {n:Nat}
def abd {a:UInt8}:n.toUInt8=a↔n%256=a.toNat:=by
 rw[<-UInt8.toNat_inj];simp
variable {a b c d:UInt8} {t:L8}
def ok1:okL (a::t) 1↔a.toNat<128:=by
 have k:=a.toNat_lt;unfold okL;simp only[zdd,zdl,yH];unfold JJ;rw[zab oM];constructor
 .intro h
  refine Classical.byContradiction λw=>?_;rw[encodeRune,encodeRuneZ_two oM oM]at h;simp at h
 intro h;rw[encodeRune,encodeRuneZ_one oM oM];simp
def ok2:okL (a::b::t) 2↔a.toNat/32=6/\b.toNat/64=2/\128<=a.toNat%32*64+b.toNat%64:=by
 have k:=a.toNat_lt;have w:=b.toNat_lt;unfold okL;simp only[zdd,zdl,yH];unfold JJ;rw[zab oM]
 by_cases h:64*(a.toNat%32)+b.toNat%64<128
 .rw[encodeRune,encodeRuneZ_one oM oM]
  simp;omega
 rw[encodeRune,encodeRuneZ_two oM oM];simp only[zbc,zcn,Option.some.injEq,List.cons.injEq,and_true,abd];omega
def ok3:okL (a::b::c::t) 3↔a.toNat/16=14/\b.toNat/64=2/\c.toNat/64=2/\2048<=a.toNat%16*4096+b.toNat%64*64+c.toNat%64/\
    (a.toNat%16*4096+b.toNat%64*64+c.toNat%64<55296\/57344<=a.toNat%16*4096+b.toNat%64*64+c.toNat%64):=by
  have w:=a.toNat_lt;have S:=b.toNat_lt;have e:=c.toNat_lt;unfold okL;simp only[zdd,zdl,yH];unfold JJ
  by_cases f:55296<=64*(64*(a.toNat%16)+b.toNat%64)+c.toNat%64/\64*(64*(a.toNat%16)+b.toNat%64)+c.toNat%64<=57343
  . rw[zac oM]
    simp;omega
  rw[zab oM]
  by_cases h:64*(64*(a.toNat%16)+b.toNat%64)+c.toNat%64<128
  . rw[encodeRune,encodeRuneZ_one oM oM]
    simp;omega
  by_cases k:64*(64*(a.toNat%16)+b.toNat%64)+c.toNat%64<2048
  . rw[encodeRune,encodeRuneZ_two oM oM]
    simp;omega
  rw[encodeRune,encodeRuneZ_three oM];simp only[zbc,zcn,Option.some.injEq,List.cons.injEq,and_true,abd];omega
def ok4:okL (a::b::c::d::t) 4↔a.toNat/8=30/\b.toNat/64=2/\c.toNat/64=2/\d.toNat/64=2/\65536<=a.toNat%8*262144+b.toNat%64*4096+c.toNat%64*64+d.toNat%64/\
    a.toNat%8*262144+b.toNat%64*4096+c.toNat%64*64+d.toNat%64<=1114111:=by
  have e:=a.toNat_lt;have f:=b.toNat_lt;have g:=c.toNat_lt;have i:=d.toNat_lt;unfold okL;simp only[zdd,zdl,yH];unfold JJ;obtain⟨n,h⟩: ∃n,n=64*(64*(64*(a.toNat%8)+b.toNat%64)+c.toNat%64)+d.toNat%64:=⟨_,rfl⟩;rw[<-h]
  by_cases j:1114111<n\/(55296<=n/\n<=57343)
  . rw[zac oM]
    simp;omega
  rw[zab oM]
  by_cases k:n<128
  . rw[encodeRune,encodeRuneZ_one oM oM]
    simp;omega
  by_cases w:n<2048
  . rw[encodeRune,encodeRuneZ_two oM oM]
    simp;omega
  by_cases S:n<65536
  . rw[encodeRune,encodeRuneZ_three oM]
    simp;omega
  rw[encodeRune,encodeRuneZ_four oM oM];simp only[zbc,zcn,Option.some.injEq,List.cons.injEq,and_true,abd];omega
def qW (a:UInt8) (t:L8):decodeL (a::t)=decodeN (t.length+1) a.toNat (t.getD 0 0).toNat (t.getD 1 0).toNat (t.getD 2 0).toNat:=by
 rw[decodeL_N];rfl
def AJ {l:L8} {k:Nat} (n:1<=k) (o:k<=4) (g:k<=l.length) (h:okL l k):iI l=some (yH (l.take k),k):=by
 have j:k=1\/k=2\/k=3\/k=4:=oM;unfold iI
 rcases j with rfl | rfl | rfl | rfl
 .obtain⟨a,t,rfl⟩: ∃a t,l=a::t:=by cases l with | nil=>simp at g | cons a t=>exact⟨a,t,rfl⟩
  have h:=ok1.1 h;have w:decodeL (a::t)=(a.toNat,1):=by rw[qW,decodeN,zac h]
  rw[w,zab kN];rfl
 .obtain⟨a,b,t,rfl⟩: ∃a b t,l=a::b::t:=by match l,g with | a::b::t,_=>exact⟨a,b,t,rfl⟩
  obtain⟨S,e,f⟩:=ok2.1 h
  have w:decodeL (a::b::t)=(a.toNat%32*64+b.toNat%64,2):=by
   rw[qW,decodeN,zab oM,zac ⟨S,sM,by simpa using e⟩];simp only[zfk];rw[zac f]
  rw[w,zab sM];simp only[zdd,zdl,yH]
  congr 2;omega
 .obtain⟨a,b,c,t,rfl⟩: ∃a b c t,l=a::b::c::t:=by match l,g with | a::b::c::t,_=>exact⟨a,b,c,t,rfl⟩
  obtain⟨S,e,f,i,m⟩:=ok3.1 h
  have w:decodeL (a::b::c::t)=(a.toNat%16*4096+b.toNat%64*64+c.toNat%64,3):=by
   rw[qW,decodeN,zab oM,zab oM,zac ⟨S,⟨sM,by simpa using e⟩,sM,by simpa using f⟩];simp only[zfk,zge];rw[zac ⟨i,oM⟩]
  rw[w,zab sM];simp only[zdd,zdl,yH]
  congr 2;omega
 obtain⟨a,b,c,d,t,rfl⟩: ∃a b c d t,l=a::b::c::d::t:=by match l,g with | a::b::c::d::t,_=>exact⟨a,b,c,d,t,rfl⟩
 obtain⟨S,e,f,i,m,p⟩:=ok4.1 h
 have w:decodeL (a::b::c::d::t)=(a.toNat%8*262144+b.toNat%64*4096+c.toNat%64*64+d.toNat%64,4):=by
  rw[qW,decodeN,zab oM,zab oM,zab oM,zac ⟨S,⟨sM,by simpa using e⟩,⟨sM,by simpa using f⟩,sM,by simpa using i⟩];simp only[zfk,zge];rw[zac ⟨m,oM⟩]
 rw[w,zab sM];simp only[zdd,zdl,yH]
 congr 2;omega
variable {l:L8}
def JK (h: ∀k,1<=k->k<=4->k<=l.length->¬okL l k):iI l=none:=by
  unfold iI
  match l,h with
  | [],_=>rw[zac (.inl rfl)]
  | a::t,h=>
    rw[qW]
    rcases decodeN_shape (t.length+1) a.toNat (t.getD 0 0).toNat (t.getD 1 0).toNat (t.getD 2 0).toNat with⟨c,e⟩ | ⟨S,w,f,g,e⟩ | ⟨S,w,f,i,g,cs,e⟩ | ⟨S,w,f,i,j,g,m,e⟩ | e
    . exact zas (ok1.2 c) (h 1 oM oM sM)
    . obtain⟨b,u,rfl⟩: ∃b u,t=b::u:=by cases t with | nil=>simp at w | cons b u=>exact⟨b,u,rfl⟩
      exact zas (ok2.2 ⟨S,f,g⟩) (h 2 oM oM sM)
    . obtain⟨b,c,u,rfl⟩: ∃b c u,t=b::c::u:=by
        cases t with
        | nil=>simp at w
        | cons b u=>cases u with
          | nil=>simp at w
          | cons c u=>exact⟨b,c,u,rfl⟩
      exact zas (ok3.2 ⟨S,f,i,g,cs⟩) (h 3 oM oM sM)
    . obtain⟨b,c,d,u,rfl⟩: ∃b c d u,t=b::c::d::u:=by
        cases t with
        | nil=>simp at w
        | cons b u=>cases u with
          | nil=>simp at w
          | cons c u=>cases u with
            | nil=>simp at w
            | cons d u=>exact⟨b,c,d,u,rfl⟩
      exact zas (ok4.2 ⟨S,f,i,j,g,m⟩) (h 4 oM oM sM)
    rw[e,zac (.inr ⟨rfl,rfl⟩)]
variable {r:Nat}
def uO (h:iI l=some (r,n)):decodeL l=(r,n)/\1<=n/\n<=l.length/\encodeRune (r:Int)=l.take n:=by
 unfold iI at h
 split at h
 .cases h
 rename_i g;injection h with h
 have k:l≠[]:=λe=>g (.inl e);have i: ¬((decodeL l).1=65533/\(decodeL l).2=1):=λe=>g (.inr e);have w:=encode_decode l k i;have S:=decodeL_le l k;have f:=decodeL_width l;rw[h]at w S f;exact⟨h,f,S,w⟩
def EF (k:l≠[]):validD l=match iI l with | none=>false | some (_,n)=>validD (l.drop n):=by
 rw[validD_step l k];unfold iI
 by_cases h:(decodeL l).1=65533/\(decodeL l).2=1
 .rw[zac h,zac (.inr h)]
 rw[zab h,zab (λe=>e.elim k h)]
def nU (n:Nat):UInt8:=if n<10 then(48+n).toUInt8 else(87+n).toUInt8
def jT (c:UInt8):L8:=
 if c=34 then [92,34]else if c=92 then [92,92]else if c=8 then [92,98]else if c=12 then [92,102]else if c=10 then [92,110]else if c=13 then [92,114]else if c=9 then [92,116]
 else if c<32 then [92,117,48,48,nU (c.toNat/16),nU (c.toNat%16)]else [c]
def vW (s:L8):L8:=34::(s.flatMap jT++[34])
def oo (c:UInt8):Option Nat:=if 48<=c.toNat/\c.toNat<=57 then some (c.toNat-48)else if 97<=c.toNat/\c.toNat<=102 then some (c.toNat-87)else if 65<=c.toNat/\c.toNat<=70 then some (c.toNat-55)else none
def tq (s:L8) (second:Bool):Nat×Int:=
 match s[0]? with
 | none=>(0,3)
 | some c0=>match oo c0 with
  | none=>(0,41)
  | some d0=>if second=true/\d0≠13 then(0,41)else match s[1]? with
   | none=>(0,3)
   | some c1=>match oo c1 with
    | none=>(0,41)
    | some d1=>if second≠decide (220<=16*d0+d1/\16*d0+d1<=223)then(0,41)else match s[2]? with
     | none=>(0,3)
     | some c2=>match oo c2 with
      | none=>(0,41)
      | some d2=>match s[3]? with
       | none=>(0,3)
       | some c3=>match oo c3 with
        | none=>(0,41)
        | some d3=>(16*(16*(16*d0+d1)+d2)+d3,0)
def NM (c:UInt8):Option UInt8:=
 if c=34 then some 34 else if c=92 then some 92 else if c=47 then some 47 else if c=98 then some 8 else if c=102 then some 12 else if c=110 then some 10 else if c=114 then some 13 else if c=116 then some 9 else none
def ZL (s:L8) (n:Nat):L8×Nat×Int:=
 match s[6]? with
 | none=>([],0,3)
 | some c6=>if c6≠92 then([],0,41)else match s[7]? with
  | none=>([],0,3)
  | some c7=>if c7≠117 then([],0,41)else
   let k:=tq (s.drop 8) true
   if k.2≠0 then([],0,k.2)else(encodeRune (65536+1024*((n:Int)-55296)+k.1-56320),12,0)
def yI (s:L8):L8×Nat×Int:=
 match s[1]? with
 | none=>([],0,3)
 | some c=>match NM c with
  | some b=>([b],2,0)
  | none=>if c≠117 then([],0,41)else
   let h:=tq (s.drop 2) false
   if h.2≠0 then([],0,h.2)
   else if h.1<55296\/56319<h.1 then(encodeRune h.1,6,0)
   else ZL s h.1
def abe:L8->Bool
  | [a]=>decide (194<=a.toNat/\a.toNat<=244)
  | [a,b]=>decide ((a.toNat=224/\160<=b.toNat/\b.toNat<=191)\/((225<=a.toNat/\a.toNat<=236\/238<=a.toNat/\a.toNat<=239)/\128<=b.toNat/\b.toNat<=191)\/(a.toNat=237/\128<=b.toNat/\b.toNat<=159)\/
      (a.toNat=240/\144<=b.toNat/\b.toNat<=191)\/(241<=a.toNat/\a.toNat<=243/\128<=b.toNat/\b.toNat<=191)\/(a.toNat=244/\128<=b.toNat/\b.toNat<=143))
  | [a,b,c]=>decide (((a.toNat=240/\144<=b.toNat/\b.toNat<=191)\/(241<=a.toNat/\a.toNat<=243/\128<=b.toNat/\b.toNat<=191)\/(a.toNat=244/\128<=b.toNat/\b.toNat<=143))/\128<=c.toNat/\c.toNat<=191)
  | _=>false
def tu:Nat->L8->Nat->L8->L8×Nat×Int
 | 0,_,_,_=>([],0,3)
 | f+1,rest,i,out=>match rest with
  | []=>([],0,3)
  | c::t=>if c=34 then(out,i+1,0)else if c<32 then([],0,41)
   else if c=92 then(let e:=yI (c::t);if e.2.2≠0 then([],0,e.2.2)else tu f ((c::t).drop e.2.1) (i+e.2.1) (out++e.1))
   else match iI (c::t)with
    | some (_,n)=>tu f ((c::t).drop n) (i+n) (out++(c::t).take n)
    | none=>([],0,if abe (c::t)then 3 else 40)
def Ui (s:L8):L8×Nat×Int:=
 match s with
 | []=>([],0,3)
 | c::t=>if c≠34 then([],0,41)else tu (t.length+1) t 1 []
def NQ (s:L8):(∃e:Int,e≠0/\yI s=([],0,e))\/∃b n,1<=n/\yI s=(b,n,0):=by
 obtain⟨x,h⟩: ∃x,x=yI s:=⟨_,rfl⟩;rw[<-h];unfold yI ZL at h;dsimp only at h
 repeat' split at h
 all_goals first
  | exact .inl ⟨_,dC,h⟩
  | exact .inr ⟨_,_,dC,h⟩
  | exact .inl ⟨_,by assumption,h⟩
def adB: ∀{f g:Nat} {rest:L8} {i:Nat} {o:L8},rest.length<f->rest.length<g->tu f rest i o=tu g rest i o:=by
 intro f
 induction f with
 | zero=>intro g rest i o h;exact zas h (zdy _)
 | succ f q=>
  intro g rest i o u p;cases g with
  | zero=>exact zas p (zdy _)
  | succ g=>
   cases rest with
   | nil=>rfl
   | cons c t=>
    unfold tu
    have w: ∀k,1<=k->((c::t).drop k).length<f/\((c::t).drop k).length<g:=λk v=>by
     rw[zbm];simp only[zat]at u p ⊢;omega
    dsimp only
    split
    .rfl
    split
    .rfl
    split
    .split
     .rfl
     rename_i m
     have S:1<=(yI (c::t)).2.1:=by
      rcases NQ (c::t)with⟨e,s,l⟩ | ⟨b,n,j,l⟩
      .rw[l]at m;exact zas s m
      rw[l];exact j
     obtain⟨a,b⟩:=w _ S;exact q a b
    cases j:iI (c::t)with
    | none=>rfl
    | some x=>
     obtain⟨r,n⟩:=x;obtain⟨_,S,_,_⟩:=uO j;obtain⟨a,b⟩:=w _ S;exact q a b
structure bZ where
 kind:Int
 null:Bool
structure aF where
 null:Bool
 n:Int
 s:L8
structure bF where
 id:Int
 name:L8
 type:bZ
 dflt:aF
structure bH where
 kind:Int
 n:Int
 s:L8
def bZ.ext' {a b:bZ} (h:a.kind=b.kind) (k:a.null=b.null):a=b:=by cases a;cases b;simp_all
def aF.ext' {a b:aF} (h:a.null=b.null) (k:a.n=b.n) (w:a.s=b.s):a=b:=by cases a;cases b;simp_all
def bH.ext' {a b:bH} (h:a.kind=b.kind) (k:a.n=b.n) (w:a.s=b.s):a=b:=by cases a;cases b;simp_all
def bF.ext' {a b:bF} (h:a.id=b.id) (k:a.name=b.name) (w:a.type=b.type) (S:a.dflt=b.dflt):a=b:=by cases a;cases b;simp_all
instance:DecidableEq bZ:=λa b=>decidable_of_iff (a.kind=b.kind/\a.null=b.null) ⟨λh=>bZ.ext' h.1 h.2,λh=>by subst h;exact⟨rfl,rfl⟩⟩
instance:DecidableEq aF:=λa b=>decidable_of_iff (a.null=b.null/\a.n=b.n/\a.s=b.s) ⟨λh=>aF.ext' h.1 h.2.1 h.2.2,λh=>by subst h;exact⟨rfl,rfl,rfl⟩⟩
instance:DecidableEq bH:=λa b=>decidable_of_iff (a.kind=b.kind/\a.n=b.n/\a.s=b.s) ⟨λh=>bH.ext' h.1 h.2.1 h.2.2,λh=>by subst h;exact⟨rfl,rfl,rfl⟩⟩
instance:DecidableEq bF:=λa b=>decidable_of_iff (a.id=b.id/\a.name=b.name/\a.type=b.type/\a.dflt=b.dflt) ⟨λh=>bF.ext' h.1 h.2.1 h.2.2.1 h.2.2.2,λh=>by subst h;exact⟨rfl,rfl,rfl,rfl⟩⟩
def cell0:aF:=⟨false,0,[]⟩
def cK:aF:=⟨true,0,[]⟩
def iq:bZ:=⟨0,false⟩
def mX (t:bZ):Bool:=decide (1<=t.kind/\t.kind<=5)
def isC (kind:Int) (c:aF):Bool:=
 if kind=1 then decide (c.s=[]/\0<=c.n/\c.n<=1)
 else if kind=2 then decide (c.s=[]/\ -2147483648<=c.n/\c.n<=2147483647)
 else if kind=3 then decide (c.s=[])
 else if kind=4 then decide (c.n=0/\c.s.length<=1024/\validD c.s=true)
 else decide (c.n=0/\c.s.length<=1024)
def fB (t:bZ) (c:aF):Int:=
 if mX t=false then 2 else if c.null=true then(if t.null=true/\c=cK then 0 else 90)else if isC t.kind c=true then 0 else 90
def eX (x:bH):Bool:=
 if x.kind=1 then decide (x.s=[]/\1<=x.n/\x.n<=1048576)
 else if x.kind=2 then decide (x.s=[])
 else if x.kind=3 then decide (x.s=[]/\0<=x.n/\x.n<=1)
 else if x.kind=4 then decide (x.n=0/\x.s.length<=1024/\validD x.s=true)
 else if x.kind=5 then decide (x.n=0/\x.s.length<=1024)
 else if x.kind=6 then decide (x.s=[]/\(x.n=1\/(3<=x.n/\x.n<=5)))
 else decide (7<=x.kind/\x.kind<=18/\x.n=0/\x.s=[])
def eD (kind:Int):Nat:=if kind<7 then 0 else if kind=10\/kind=15\/kind=16\/kind=18 then 1 else 2
def jM (cols:List bF) (id:Int):Option Nat:=cols.findIdx? λc=>decide (c.id=id)
def iW (cols:List bF) (x:bH):Option bZ:=
 if x.kind=1 then(match jM cols x.n with
  | none=>none
  | some i=>let t:=(cols.getD i ⟨0,[],iq,cell0⟩).type
   if mX t=false then none else some (if t.kind=2 then⟨3,t.null⟩else t))
 else if x.kind=2 then some ⟨3,false⟩
 else if x.kind=3 then some ⟨1,false⟩
 else if x.kind=4 then some ⟨4,false⟩
 else if x.kind=5 then some ⟨5,false⟩
 else some ⟨x.n,true⟩
def vX (kind:Int) (a b:bZ):Option bZ:=
 if kind=7\/kind=8\/kind=9\/kind=10 then(if a.kind=3/\b.kind=3 then some ⟨3,a.null||b.null⟩else none)
 else if kind=11\/kind=12 then(if a.kind=b.kind then some ⟨1,a.null||b.null⟩else none)
 else if kind=13\/kind=14\/kind=15 then(if a.kind=1/\b.kind=1 then some ⟨1,a.null||b.null⟩else none)
 else if kind=16 then some ⟨1,false⟩
 else if kind=17 then(if a.kind=b.kind then some ⟨a.kind,a.null&&b.null⟩else none)
 else(if a.kind=4\/a.kind=5 then some ⟨3,a.null||b.null⟩else none)
def stepT (cols:List bF) (st:List bZ) (x:bH):Option (List bZ):=
 let k:=eD x.kind
 if eX x=false\/st.length<k then none
 else(if k=0 then iW cols x else vX x.kind (st.getD (st.length-k) iq) (st.getD (st.length-1) iq)).map λt=>st.take (st.length-k)++[t]
def runT (cols:List bF):List bZ->List bH->Option (List bZ)
 | st,[]=>some st
 | st,x::l=>(stepT cols st x).bind λst=>runT cols st l
def gH (cols:List bF) (l:List bH):bZ×Int:=
 if 64<l.length then(iq,5)else match runT cols [] l with
  | some [t]=>(t,0)
  | _=>(iq,220)
def iw (b:Bool):aF:=if b then⟨false,1,[]⟩else cell0
def bM (n:Int):Bool:=decide (-9223372036854775808<=n/\n<=9223372036854775807)
def nV (a b:aF):Int:=
 if a.null=b.null then(if a.n<b.n then -1 else if b.n<a.n then 1 else compareBytes a.s b.s)else if a.null=true then -1 else 1
def vY (kind:Int) (a b:aF):aF:=
 if kind=13/\(a=iw false\/b=iw false)then iw false
 else if kind=14/\(a=iw true\/b=iw true)then iw true
 else if a=cK\/b=cK then cK
 else if kind=15 then iw (decide (a=iw false))
 else iw (decide (kind=13))
def jI (kind:Int) (a b:aF):Option aF:=
 if kind=13\/kind=14\/kind=15 then some (vY kind a b)
 else if kind=16 then some (iw a.null)
 else if kind=17 then some (if a.null then b else a)
 else if a.null=true\/b.null=true then some cK
 else if kind=11 then some (iw (decide (nV a b=0)))
 else if kind=12 then some (iw (decide (nV a b<0)))
 else if kind=18 then some ⟨false,a.s.length,[]⟩
 else let n:=if kind=7 then a.n+b.n else if kind=8 then a.n-b.n else if kind=9 then a.n*b.n else -a.n
  if bM n=true then some ⟨false,n,[]⟩else none
def d9 (cols:List bF) (r:List aF):Int:=
 if cols.length≠r.length then 100 else((cols.zip r).map λp=>fB p.1.type p.2).find? (λe=>decide (e≠0)) |>.getD 0
def D7 (cols:List bF) (r:List aF) (st:List aF) (x:bH):Option (List aF):=
  let k:=eD x.kind
  (if k=0 then some (if x.kind=1 then r.getD ((jM cols x.n).getD 0) cell0 else if x.kind=6 then cK else⟨false,x.n,x.s⟩)
   else jI x.kind (st.getD (st.length-k) cell0) (st.getD (st.length-1) cell0)).map λc=>st.take (st.length-k)++[c]
def tV (cols:List bF) (r:List aF):List aF->List bH->Option (List aF)
 | st,[]=>some st
 | st,x::l=>(D7 cols r st x).bind λst=>tV cols r st l
def j6 (cols:List bF) (l:List bH) (r:List aF):aF×Int:=
 if(gH cols l).2≠0 then(cell0,(gH cols l).2)else if d9 cols r≠0 then(cell0,d9 cols r)
 else match tV cols r [] l with
  | none=>(cell0,50)
  | some st=>(st.getD 0 cell0,0)
def mK (k:Int):List Int->List Int
 | []=>[k]
 | x::l=>if x<k then x::mK k l else if x=k then x::l else k::x::l
def tC (l:List bH):List Int:=(l.filter λx=>decide (x.kind=1)).foldl (λa x=>mK x.n a) []
def oN (k:Int):L8:=if k=1 then [110,117,108,108,58,98,111,111,108]else if k=3 then [110,117,108,108,58,105,110,116,54,52]else if k=4 then [110,117,108,108,58,115,116,114,105,110,103]else if k=5 then [110,117,108,108,58,98,121,116,101,115]else []
def mo:List (L8):=[[43],[45],[42],[110,101,103],[61],[60],[97,110,100],[111,114],[110,111,116],[105,115,110,117,108,108],[101,108,115,101],[108,101,110]]
def zC (s:L8):L8:=s.flatMap λc=>[nU (c.toNat/16),nU (c.toNat%16)]
def Q0 (s:L8):L8:=(vW s).flatMap λc=>if c=32 then [92,117,48,48,50,48]else [c]
def iE (x:bH):L8:=
 if x.kind=1 then 35::itoa x.n
 else if x.kind=2 then itoa x.n
 else if x.kind=3 then(if x.n=1 then [116,114,117,101]else [102,97,108,115,101])
 else if x.kind=4 then Q0 x.s
 else if x.kind=5 then 120::zC x.s
 else if x.kind=6 then oN x.n
 else mo.getD (x.kind-7).toNat []
def jo (sep:UInt8):List (L8)->L8
 | []=>[]
 | [w]=>w
 | w::l=>w++sep::jo sep l
def jd (l:List bH):L8×Int:=
 if 64<l.length then([],5)else if(l.all eX)=false then([],2)else(jo 32 (l.map iE),0)
def AL {r n:Nat} (h:iI l=some (r,n)):1<=n/\n<=4/\n<=l.length/\okL l n/\r=yH (l.take n):=by
 by_cases g: ∃k,1<=k/\k<=4/\k<=l.length/\okL l k
 .obtain⟨k,S,e,f,w⟩:=g
  rw[AJ S e f w]at h;injection h with h
  injection h with i j
  subst j;exact⟨S,e,f,w,i.symm⟩
 rw[JK λk S e f w=>g ⟨k,S,e,f,w⟩]at h;cases h
def agJ (h:iI l=some (r,n)) (t:L8):iI (l.take n++t)=some (r,n):=by
 obtain⟨S,f,i,k,g⟩:=AL h
 have e:(l.take n++t).take n=l.take n:=by
  rw[zen Io,List.take_take,Nat.min_self]
 have w:okL (l.take n++t) n:=by unfold okL at k ⊢;rw[e];exact k
 rw[AJ S f (by rw[zad,zah];omega) w,e,g]
def ZM (h:c.toNat<128):iI (c::t)=some (c.toNat,1):=by
 have:=AJ (l:=c::t) (k:=1) oM oM sM (ok1.2 h);simpa[yH]using this
def adC (h:iI l=some (r,n)) (p:n≠1): ∀c∈l.take n,128<=c.toNat:=by
 obtain⟨j,m,S,w,_⟩:=AL h;have e:n=2\/n=3\/n=4:=oM
 rcases e with rfl | rfl | rfl
 .obtain⟨a,b,t,rfl⟩: ∃a b t,l=a::b::t:=by match l,S with | a::b::t,_=>exact⟨a,b,t,rfl⟩
  obtain⟨f,g,_⟩:=ok2.1 w;intro c k;simp at k
  rcases k with rfl | rfl<;>omega
 .obtain⟨a,b,c,t,rfl⟩: ∃a b c t,l=a::b::c::t:=by match l,S with | a::b::c::t,_=>exact⟨a,b,c,t,rfl⟩
  obtain⟨f,g,i,_⟩:=ok3.1 w;intro x k;simp at k
  rcases k with rfl | rfl | rfl<;>omega
 obtain⟨a,b,c,d,t,rfl⟩: ∃a b c d t,l=a::b::c::d::t:=by match l,S with | a::b::c::d::t,_=>exact⟨a,b,c,d,t,rfl⟩
 obtain⟨f,g,i,o,_⟩:=ok4.1 w;intro x k;simp at k
 rcases k with rfl | rfl | rfl | rfl<;>omega
def agK (h:iI l=some (r,1)): ∃c t,l=c::t/\c.toNat<128:=by
 obtain⟨S,e,w,k,_⟩:=AL h;cases l with
 | nil=>simp at w
 | cons c t=>exact⟨c,t,rfl,ok1.1 k⟩
def adD {p:L8->Prop} (i:p []) (j: ∀c t,c.toNat<128->validD t=true->p t->p (c::t))
    (m: ∀l r n,iI l=some (r,n)->n≠1->validD (l.drop n)=true->p (l.drop n)->p l): ∀{l:L8},validD l=true->p l:=by
  intro l
  induction hk:l.length using Nat.strongRecOn generalizing l with
  | _ k q=>
    intro w;cases l with
    | nil=>exact i
    | cons a u=>
      rw[EF sM]at w;cases hn:iI (a::u)with
      | none=>rw[hn]at w;cases w
      | some x=>
        obtain⟨r,n⟩:=x;rw[hn]at w;dsimp only at w;obtain⟨v,_,s,_,_⟩:=AL hn;have h:=q ((a::u).drop n).length (by rw[zbm,<-hk];simp only[zat]at s ⊢;omega) rfl w
        by_cases S:n=1
        . subst S
          obtain⟨c,t,e,o⟩:=agK hn;injection e with f g
          subst f;subst g;exact j a u o w h
        exact m _ r n hn S w h
def jc (c:UInt8):L8:=if c=32 then [92,117,48,48,50,48]else jT c
def KG (h:128<=c.toNat):jT c=[c]:=by
 unfold jT;have e: ∀k:UInt8,k.toNat<128->c≠k:=λk S e=>by subst e;omega
 rw[zab (e _ dC),zab (e _ dC),zab (e _ dC),zab (e _ dC),zab (e _ dC),zab (e _ dC),zab (e _ dC),zab (λw=>by have:=UInt8.lt_iff_toNat_lt.1 w;simp at this;omega)]
def Xx (h:128<=c.toNat):jc c=[c]:=by
 unfold jc;rw[zab (λe=>by subst e;simp at h),KG h]
def Dr (h:n<16):nU n≠32:=by
 have : ∀n:Fin 16,nU n.val≠32:=by decide
 exact this ⟨n,h⟩
def Xy (c:UInt8):(jT c).flatMap (λc=>if c=32 then [92,117,48,48,50,48]else [c])=jc c:=by
 unfold jc
 by_cases h:c=32
 .subst h;rfl
 rw[zab h];have k:nU (c.toNat/16)≠32:=Dr (by have:=c.toNat_lt;omega);have w:nU (c.toNat%16)≠32:=Dr oM;unfold jT
 repeat' split
 all_goals simp_all
def BS (s:L8):Q0 s=34::(s.flatMap jc++[34]):=by
 unfold Q0 vW;rw[zbi,zbu,List.flatMap_assoc];have e:(λc=>(jT c).flatMap (λc=>if c=32 then [92,117,48,48,50,48]else [c]))=jc:=funext Xy;rw[e];rfl
def Q5 {d:Nat} (h:d<16):oo (nU d)=some d:=by
 have : ∀d:Fin 16,oo (nU d.val)=some d.val:=by decide
 exact this ⟨d,h⟩
def agL {a b:Nat} {t:L8} (h:a<16) (k:b<16):tq (48::48::nU a::nU b::t) false=(16*a+b,0):=by
 have e:oo 48=some 0:=rfl;unfold tq;simp[e,Q5 h,Q5 k]
def aiu (h:c.toNat<128):encodeRune (c.toNat:Int)=[c]:=by
 rw[encodeRune,encodeRuneZ_one oM oM];simp
def aiv (h:c.toNat<128):yI (92::117::48::48::nU (c.toNat/16)::nU (c.toNat%16)::t)=([c],6,0):=by
 have k:=agL (t:=t) (show c.toNat/16<16 from oM) (show c.toNat%16<16 from oM);have e:16*(c.toNat/16)+c.toNat%16=c.toNat:=oM;rw[e]at k;have w:NM 117=none:=rfl;unfold yI;simp only[zcy,zcx,w,zev,zdh,k];simp only[ne_eq,not_true_eq_false,if_false];rw[zac (.inl oM),aiu h]
def agM (h:c.toNat<128) (f i:Nat) (u o:L8):tu (f+1) (jc c++u) i o=tu f u (i+(jc c).length) (o++[c]):=by
 have key: ∀x b:UInt8,NM x=some b->tu (f+1) (92::x::u) i o=tu f u (i+2) (o++[b]):=by
  intro x b r
  have e:yI (92::x::u)=([b],2,0):=by
   unfold yI;simp only[zcy,zcx,r]
  rw[tu];simp only[e];simp
 have k:tu (f+1) (92::117::48::48::nU (c.toNat/16)::nU (c.toNat%16)::u) i o=tu f u (i+6) (o++[c]):=by
  rw[tu];simp only[aiv h];simp
 unfold jc
 by_cases j:c=32
 .subst j;rw[zac rfl];exact k
 rw[zab j];unfold jT
 by_cases w:c=34
 .subst w;exact key 34 34 rfl
 rw[zab w]
 by_cases S:c=92
 .subst S;exact key 92 92 rfl
 rw[zab S]
 by_cases l:c=8
 .subst l;exact key 98 8 rfl
 rw[zab l]
 by_cases m:c=12
 .subst m;exact key 102 12 rfl
 rw[zab m]
 by_cases n:c=10
 .subst n;exact key 110 10 rfl
 rw[zab n]
 by_cases p:c=13
 .subst p;exact key 114 13 rfl
 rw[zab p]
 by_cases q:c=9
 .subst q;exact key 116 9 rfl
 rw[zab q]
 by_cases g:c<32
 .rw[zac g];exact k
 rw[zab g];show tu (f+1) (c::u) i o=_
 rw[tu];simp only[w,g,S,if_false,ZM h];simp
def adE (h: ∀c∈l,128<=c.toNat):l.flatMap jc=l:=by
 induction l with
 | nil=>rfl
 | cons c l i=>
  rw[zbi,Xx (h c zak),i λx k=>h x (zap _ k)];rfl
def agN {s:L8} (C:validD s=true): ∀(f i:Nat) (u o:L8),(s.flatMap jc++34::u).length<=f->tu f (s.flatMap jc++34::u) i o=(o++s,i+(s.flatMap jc).length+1,0):=by
 refine adD (p:=λs=>∀(f i:Nat) (u o:L8),(s.flatMap jc++34::u).length<=f->tu f (s.flatMap jc++34::u) i o=(o++s,i+(s.flatMap jc).length+1,0)) ?_ ?_ ?_ C
 .intro f i u o w
  cases f with
  | zero=>simp at w
  | succ f=>rw[zfa,zby,tu];simp
 .intro c t v _ j f i u o w
  have G:1<=(jc c).length:=by
   unfold jc jT
   repeat' split
   all_goals simp
  rw[zbi,zbp]at w ⊢;rw[zad]at w;cases f with
  | zero=>omega
  | succ f=>
   rw[agM v,j f _ u _ oM,zbp,zad];simp only[zcb,zby,Prod.mk.injEq,and_true,true_and];omega
 intro l r n g z _ j f i u o w;obtain⟨D,_,E,_,_⟩:=AL g;have x:=adC g z
 have e:l.flatMap jc=l.take n++(l.drop n).flatMap jc:=by
  conv=>lhs;rw[<-zbs n l]
  rw[zbu,adE x]
 rw[e,zbp]at w ⊢;rw[zad,zah]at w;cases f with
 | zero=>omega
 | succ f=>
  have q:=agJ g ((l.drop n).flatMap jc++34::u)
  obtain⟨c,t,h⟩: ∃c t,l.take n++((l.drop n).flatMap jc++34::u)=c::t:=by
   cases h0:l.take n++((l.drop n).flatMap jc++34::u)with
   | nil=>simp at h0
   | cons c t=>exact⟨c,t,rfl⟩
  have v:128<=c.toNat:=by
   refine x c ?_;cases S:l.take n with
   | nil=>rw[List.take_eq_nil_iff]at S;rcases S with rfl | rfl<;>simp at D E;omega
   | cons a b=>rw[S]at h;injection h with y _;rw[y];exact zak
  have m: ∀k:UInt8,k.toNat<128->c≠k:=λk F e=>by subst e;omega
  have A:(c::t).drop n=(l.drop n).flatMap jc++34::u:=by rw[<-h,zeo Io,List.drop_take,zdw,zdl,zby]
  have S:(c::t).take n=l.take n:=by rw[<-h,zen Io,List.take_take,Nat.min_self]
  rw[h]at q ⊢;rw[tu];dsimp only;rw[zab (m _ dC),zab (λH=>by have:=UInt8.lt_iff_toNat_lt.1 H;simp at this;omega),zab (m _ dC),q];dsimp only;rw[A,S,j f _ u _ oM,zbp,zbs,zad,zah];simp only[Prod.mk.injEq,and_true,true_and];omega
def agO {s:L8} (h:validD s=true):Ui (Q0 s)=(s,(Q0 s).length,0):=by
 rw[BS];unfold Ui;dsimp only;rw[zab sM,agN h _ _ [] [] oM];simp;omega
end Go.Proofs.Mw
