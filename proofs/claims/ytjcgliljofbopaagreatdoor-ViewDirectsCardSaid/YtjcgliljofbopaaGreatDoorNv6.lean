/-
 Slices inside of what is read,as rows. Nothing of a given program stands here.
-/
import Derived.Test.YtjcgliljofbopaaGreatDoorNv5
import Derived.Test.YtjcgliljofbopaaGreatDoorProg
import Derived.Lib.ValidLaws
import Derived.Lib.ItoaNum
import Derived.Lib.ParseIntBTie
import Derived.Lib.Bytealg
set_option linter.all false
namespace Go.Proofs.Mw
open Go.RowKit Go.ChangeShapes Go.WideShapes Go.Deep
section
variable {H:Type} {enc:Td×Value->H} {P:Program}
def zY {α:Type} {f:α->LV} {good:α->Prop} {s:Nat} {t e:Td} {W:Wd} {v:Value} {n0:Nat} {y:DataW H×List MemPlace} (ht:P.underlying t=some (.slice e)) (hC:P.cellsOf e=s) (hf: ∀x,(f x).length=s)
    (hel: ∀n cs y,cs.length=s->DataW.trod enc P W 0 (λ_=>true) true n e cs=some y->∃x,cs=f x/\good x) (h:DataW.trod enc P W 0 (λ_=>true) true n0 t [v]=some y):
    ∃A c,∃l:List α,v=.slice A l.length c/\l.length<=c/\c<=maxLen/\gY W A l.length s (l.flatMap f)/\∀x∈l,good x:=by
  rcases open_slice ht h with⟨h0,_⟩ | ⟨a,len,cap,m,n,D,Pl,hcs,_,hl,hm,hmm,_,hi⟩
  . injection h0 with h0 _
    exact⟨none,0,[],h0,zbj _,zak _,gY.nil _ _ _,λ_ h=>by cases h⟩
  injection hcs with hcs _
  have Dn:m=cap:=by simpa using hmm
  subst Dn
  obtain⟨l,h1,h2⟩:=BM (α:=α) (Q:=λi x=>good x/\∀j u,(f x)[j]? =some u->W.cell? (a.add (i*s+j))=some u) len (λi hi'=>by
    obtain⟨cs',hc,ht'⟩:=hi i oM;rw[hC]at hc;obtain⟨_,UZ,hat⟩:=World.cells?_some hc;obtain⟨x,hx,hg⟩:=hel _ _ _ UZ ht';refine⟨x,hg,λj u hu=>?_⟩;have hj:j<s:=by rw[<-hf x];exact(zbb.1 hu).1
    have OE:=hat j hj;rw[<-Go.Deep.add_add,OE,hx];exact hu)
  subst h1;refine⟨some a,m,l,hcs,hl,hm,⟨BO hf l,λ_=>⟨a,rfl,λk u hk=>?_⟩⟩,λx hx=>?_⟩
  . obtain⟨i,j,x,hi',hj,rfl⟩:=BN hf l k u hk
    exact(h2 i x hi').2 j u hj
  obtain⟨i,hi'⟩:=List.mem_iff_getElem?.1 hx;exact(h2 i x hi').1
end
open Go.Proofs.Tryz Go.Lib
abbrev Oa:=@OneCell prog
abbrev Za:=@Zero prog
abbrev Ca:=@Cells prog
abbrev Ia:=@mV prog
abbrev Ib:=@cO prog
abbrev Aa:=@Agg prog
abbrev Ic:=@aa0 prog
abbrev Id:=@zl prog
abbrev Ba:=@ahg prog
abbrev Fa:=@Cm prog
instance:Oa 1:={}
instance:Za 1 (Value.nilFunc):={}
instance:Ca 1 1 8:={}
instance aob:Oa 2:={}
instance:Za 2 (Value.int .i64 0):={}
instance:Ca 2 1 8:={}
instance:Ia 2 .i64:={}
instance ame:Oa 3:={}
instance:Za 3 (Value.int .i64 0):={}
instance:Ca 3 1 8:={}
instance:Ia 3 .i64:={}
instance aoc:Oa 4:={}
instance:Za 4 (Value.bool false):={}
instance:Ca 4 1 1:={}
instance:YJ prog 4:={}
instance:Oa 5:={}
instance:Za 5 (Value.int .u8 0):={}
instance:Ca 5 1 1:={}
instance:Ia 5 .u8:={}
instance amf:Oa 9:={}
instance:Za 9 (Value.string .empty):={}
instance:Ca 9 1 16:={}
instance:lQ prog 9:={}
instance:Oa 12:={}
instance:Za 12 (Value.int .u64 0):={}
instance:Ca 12 1 8:={}
instance:Ia 12 .u64:={}
instance:Oa 20:={}
instance:Za 20 (Value.nilIface):={}
instance:Ca 20 1 16:={}
instance:Oa 21:={}
instance:Za 21 (Value.int .i32 0):={}
instance:Ca 21 1 4:={}
instance:Ia 21 .i32:={}
instance:Oa 22:={}
instance:Za 22 (Value.slice none 0 0):={}
instance:Ca 22 1 24:={}
instance:Ib 22 67:={}
instance:Oa 23:={}
instance:Za 23 (Value.slice none 0 0):={}
instance:Ca 23 1 24:={}
instance:Ib 23 97:={}
instance:Oa 24:={}
instance:Za 24 (Value.slice none 0 0):={}
instance:Ca 24 1 24:={}
instance:Ib 24 49:={}
instance:Aa 26 3:={}
instance:Za 26 (Value.agg #[Value.slice none 0 0,Value.slice none 0 0,Value.int .i64 0]):={}
instance:Ca 26 3 56:={}
instance:Oa 27:={}
instance:Za 27 (Value.slice none 0 0):={}
instance:Ca 27 1 24:={}
instance:Ib 27 39:={}
instance:Oa 29:={}
instance:Za 29 (Value.int .i64 0):={}
instance:Ca 29 1 8:={}
instance:Ia 29 .i64:={}
instance:Oa 37:={}
instance:Za 37 (Value.slice none 0 0):={}
instance:Ca 37 1 24:={}
instance:Ib 37 41:={}
instance:Aa 39 2:={}
instance:Za 39 (Value.agg #[Value.slice none 0 0,Value.int .i64 0]):={}
instance:Ca 39 2 32:={}
instance aod:Aa 41 3:={}
instance:Za 41 (Value.agg #[Value.bool false,Value.int .i64 0,Value.string .empty]):={}
instance:Ca 41 3 32:={}
instance:Oa 42:={}
instance:Za 42 (Value.pointer none):={}
instance:Ca 42 1 8:={}
instance:Ic 42:=⟨_,(by kernel_rfl:Program.underlying _ _=some (.pointer 87))⟩
instance:Aa 49 2:={}
instance:Za 49 (Value.agg #[Value.string .empty,Value.slice none 0 0]):={}
instance:Ca 49 2 40:={}
instance:Oa 50:={}
instance:Za 50 (Value.pointer none):={}
instance:Ca 50 1 8:={}
instance:Ic 50:=⟨_,(by kernel_rfl:Program.underlying _ _=some (.pointer 99))⟩
instance:Oa 54:={}
instance:Za 54 (Value.nilFunc):={}
instance:Ca 54 1 8:={}
instance:Oa 55:={}
instance:Za 55 (Value.nilFunc):={}
instance:Ca 55 1 8:={}
instance aoe:Aa 65 2:={}
instance:Za 65 (Value.agg #[Value.int .i64 0,Value.bool false]):={}
instance:Ca 65 2 16:={}
instance:Aa 67 7:={}
instance:Za 67 (Value.agg #[Value.int .i64 0,Value.string .empty,Value.int .i64 0,Value.bool false,Value.bool false,Value.int .i64 0,Value.string .empty]):={}
instance:Ca 67 7 72:={}
instance:Oa 68:={}
instance:Za 68 (Value.pointer none):={}
instance:Ca 68 1 8:={}
instance:Ic 68:=⟨_,(by kernel_rfl:Program.underlying _ _=some (.pointer 70))⟩
instance:Aa 70 1:={}
instance:Za 70 (Value.agg #[Value.slice none 0 0]):={}
instance:Ca 70 1 24:={}
instance:Oa 72:={}
instance:Za 72 (Value.nilIface):={}
instance:Ca 72 1 16:={}
instance:Oa 76:={}
instance:Za 76 (Value.int .u32 0):={}
instance:Ca 76 1 4:={}
instance:Ia 76 .u32:={}
instance:Aa 78 1:={}
instance:Za 78 (Value.agg #[Value.int .u32 0]):={}
instance:Ca 78 1 4:={}
instance:Aa 80 2:={}
instance:Za 80 (Value.agg #[Value.int .i32 0,Value.int .u32 0]):={}
instance:Ca 80 2 8:={}
instance:Aa 82 2:={}
instance:Za 82 (Value.agg #[Value.int .i32 0,Value.int .u32 0]):={}
instance:Ca 82 2 8:={}
instance:Aa 84 3:={}
instance:Za 84 (Value.agg #[Value.int .u32 0,Value.int .i32 0,Value.int .u32 0]):={}
instance:Ca 84 3 12:={}
instance:Oa 85:={}
instance:Za 85 (Value.nilFunc):={}
instance:Ca 85 1 8:={}
instance:Aa 87 10:={}
instance:Za 87 (Value.agg #[Value.slice none 0 0,Value.slice none 0 0,Value.slice none 0 0,Value.int .i64 0,Value.slice none 0 0,Value.nilIface,Value.int .u32 0,Value.int .i32 0,Value.int .u32 0,Value.nilFunc]):={}
instance:Ca 87 10 144:={}
instance:Oa 88:={}
instance:Za 88 (Value.pointer none):={}
instance:Ca 88 1 8:={}
instance:Ic 88:=⟨_,(by kernel_rfl:Program.underlying _ _=some (.pointer 118))⟩
instance:Oa 91:={}
instance:Za 91 (Value.pointer none):={}
instance:Ca 91 1 8:={}
instance:Ic 91:=⟨_,(by kernel_rfl:Program.underlying _ _=some (.pointer 93))⟩
instance:Aa 93 2:={}
instance:Za 93 (Value.agg #[Value.pointer none,Value.int .i64 0]):={}
instance:Ca 93 2 16:={}
instance:Aa 97 3:={}
instance:Za 97 (Value.agg #[Value.int .i64 0,Value.int .i64 0,Value.string .empty]):={}
instance:Ca 97 3 32:={}
instance:Aa 99 6:={}
instance:Za 99 (Value.agg #[Value.slice none 0 0,Value.slice none 0 0,Value.slice none 0 0,Value.int .i64 0,Value.slice none 0 0,Value.slice none 0 0]):={}
instance:Ca 99 6 128:={}
instance:Aa 102 4:={}
instance:Za 102 (Value.agg #[Value.slice none 0 0,Value.slice none 0 0,Value.int .i64 0,Value.int .i64 0]):={}
instance:Ca 102 4 64:={}
instance:Oa 103:={}
instance:Za 103 (Value.nilFunc):={}
instance:Ca 103 1 8:={}
instance:Oa 104:={}
instance:Za 104 (Value.nilFunc):={}
instance:Ca 104 1 8:={}
instance:Oa 108:={}
instance:Za 108 (Value.nilFunc):={}
instance:Ca 108 1 8:={}
instance:Oa 115:={}
instance:Za 115 (Value.nilFunc):={}
instance:Ca 115 1 8:={}
instance:Oa 116:={}
instance:Za 116 (Value.map none):={}
instance:Ca 116 1 8:={}
instance:IsMap prog 116 9 416:={}
instance:Aa 118 4:={}
instance:Za 118 (Value.agg #[Value.bool false,Value.int .i64 0,Value.int .i64 0,Value.map none]):={}
instance:Ca 118 4 32:={}
instance:Oa 119:={}
instance:Za 119 (Value.pointer none):={}
instance:Ca 119 1 8:={}
instance:Ic 119:=⟨_,(by kernel_rfl:Program.underlying _ _=some (.pointer 84))⟩
instance:Oa 120:={}
instance:Za 120 (Value.nilFunc):={}
instance:Ca 120 1 8:={}
instance:Oa 123:={}
instance:Za 123 (Value.nilFunc):={}
instance:Ca 123 1 8:={}
instance:Oa 124:={}
instance:Za 124 (Value.slice none 0 0):={}
instance:Ca 124 1 24:={}
instance:Ib 124 120:={}
instance:Oa 128:={}
instance:Za 128 (Value.pointer none):={}
instance:Ca 128 1 8:={}
instance:Ic 128:=⟨_,(by kernel_rfl:Program.underlying _ _=some (.pointer 185))⟩
instance:Oa 131:={}
instance:Za 131 (Value.slice none 0 0):={}
instance:Ca 131 1 24:={}
instance:Ib 131 133:={}
instance:Aa 133 3:={}
instance:Za 133 (Value.agg #[Value.slice none 0 0,Value.slice none 0 0,Value.int .i64 0]):={}
instance:Ca 133 3 56:={}
instance:Oa 141:={}
instance:Za 141 (Value.pointer none):={}
instance:Ca 141 1 8:={}
instance:Ic 141:=⟨_,(by kernel_rfl:Program.underlying _ _=some (.pointer 102))⟩
instance:Oa 147:={}
instance:Za 147 (Value.nilIface):={}
instance:Ca 147 1 16:={}
instance:Oa 152:={}
instance:Za 152 (Value.slice none 0 0):={}
instance:Ca 152 1 24:={}
instance:Ib 152 9:={}
instance:Oa 154:={}
instance:Za 154 (Value.map none):={}
instance:Ca 154 1 8:={}
instance:IsMap prog 154 9 3:={}
instance:Oa 155:={}
instance:Za 155 (Value.slice none 0 0):={}
instance:Ca 155 1 24:={}
instance:Ib 155 65:={}
instance:Aa 157 1:={}
instance:Za 157 (Value.agg #[Value.slice none 0 0]):={}
instance:Ca 157 1 24:={}
instance:Oa 166:={}
instance:Za 166 (Value.nilFunc):={}
instance:Ca 166 1 8:={}
instance:Oa 167:={}
instance:Za 167 (Value.pointer none):={}
instance:Ca 167 1 8:={}
instance:Ic 167:=⟨_,(by kernel_rfl:Program.underlying _ _=some (.pointer 78))⟩
instance:Oa 169:={}
instance:Za 169 (Value.pointer none):={}
instance:Ca 169 1 8:={}
instance:Ic 169:=⟨_,(by kernel_rfl:Program.underlying _ _=some (.pointer 76))⟩
instance:Aa 172 1:={}
instance:Za 172 (Value.agg #[Value.slice none 0 0]):={}
instance:Ca 172 1 24:={}
instance:Oa 181:={}
instance:Za 181 (Value.nilFunc):={}
instance:Ca 181 1 8:={}
instance:Oa 183:={}
instance:Za 183 (Value.slice none 0 0):={}
instance:Ca 183 1 24:={}
instance:Ib 183 190:={}
instance:Aa 185 3:={}
instance:Za 185 (Value.agg #[Value.int .i64 0,Value.int .i64 0,Value.slice none 0 0]):={}
instance:Ca 185 3 40:={}
instance:Oa 188:={}
instance:Za 188 (Value.slice none 0 0):={}
instance:Ca 188 1 24:={}
instance:Ib 188 2:={}
instance:Aa 190 3:={}
instance:Za 190 (Value.agg #[Value.slice none 0 0,Value.int .i64 0,Value.slice none 0 0]):={}
instance:Ca 190 3 56:={}
instance:Oa 194:={}
instance:Za 194 (Value.slice none 0 0):={}
instance:Ca 194 1 24:={}
instance:Ib 194 195:={}
instance:Aa 195 2:={}
instance:Za 195 (Value.agg #[Value.int .i64 0,Value.int .i64 0]):={}
instance:Ca 195 2 16:={}
instance:Id 195 2 2:={}
instance:Oa 204:={}
instance:Za 204 (Value.nilFunc):={}
instance:Ca 204 1 8:={}
instance:Oa 206:={}
instance:Za 206 (Value.pointer none):={}
instance:Ca 206 1 8:={}
instance:Ic 206:=⟨_,(by kernel_rfl:Program.underlying _ _=some (.pointer 209))⟩
instance:Oa 207:={}
instance:Za 207 (Value.slice none 0 0):={}
instance:Ca 207 1 24:={}
instance:Ib 207 5:={}
instance:Aa 209 2:={}
instance:Za 209 (Value.agg #[Value.pointer none,Value.slice none 0 0]):={}
instance:Ca 209 2 32:={}
instance:Oa 212:={}
instance:Za 212 (Value.pointer none):={}
instance:Ca 212 1 8:={}
instance:Ic 212:=⟨_,(by kernel_rfl:Program.underlying _ _=some (.pointer 157))⟩
instance:Aa 213 6:={}
instance:Za 213 (Value.agg #[Value.int .i64 0,Value.int .i64 0,Value.int .i64 0,Value.int .i64 0,Value.int .i64 0,Value.int .i64 0]):={}
instance:Ca 213 6 48:={}
instance:Id 213 6 3:={}
instance:Oa 214:={}
instance:Za 214 (Value.slice none 0 0):={}
instance:Ca 214 1 24:={}
instance:Ib 214 3:={}
instance:Oa 217:={}
instance:Za 217 (Value.nilFunc):={}
instance:Ca 217 1 8:={}
instance:Oa 218:={}
instance:Za 218 (Value.pointer none):={}
instance:Ca 218 1 8:={}
instance:Ic 218:=⟨_,(by kernel_rfl:Program.underlying _ _=some (.pointer 82))⟩
instance:Oa 221:={}
instance:Za 221 (Value.pointer none):={}
instance:Ca 221 1 8:={}
instance:Ic 221:=⟨_,(by kernel_rfl:Program.underlying _ _=some (.pointer 172))⟩
instance:Oa 227:={}
instance:Za 227 (Value.nilFunc):={}
instance:Ca 227 1 8:={}
instance:Oa 228:={}
instance:Za 228 (Value.nilFunc):={}
instance:Ca 228 1 8:={}
instance:Oa 229:={}
instance:Za 229 (Value.nilFunc):={}
instance:Ca 229 1 8:={}
instance:Oa 230:={}
instance:Za 230 (Value.nilFunc):={}
instance:Ca 230 1 8:={}
instance:Aa 233 5:={}
instance:Za 233 (Value.agg #[Value.nilFunc,Value.nilFunc,Value.nilFunc,Value.nilFunc,Value.nilFunc]):={}
instance:Ca 233 5 40:={}
instance aai:Oa 236:={}
instance:Za 236 (Value.int .u64 0):={}
instance:Ca 236 1 8:={}
instance:Ia 236 .u64:={}
instance:Aa 238 6:={}
instance:Za 238 (Value.agg #[Value.int .u64 0,Value.int .u64 0,Value.int .u64 0,Value.int .u64 0,Value.int .u64 0,Value.int .u64 0]):={}
instance:Ca 238 6 48:={}
instance:Id 238 6 236:={}
instance:Oa 245:={}
instance:Za 245 (Value.int .i64 0):={}
instance:Ca 245 1 8:={}
instance:Ia 245 .i64:={}
instance:Oa 248:={}
instance:Za 248 (Value.pointer none):={}
instance:Ca 248 1 8:={}
instance:Ic 248:=⟨_,(by kernel_rfl:Program.underlying _ _=some (.pointer 299))⟩
instance:Aa 254 256:={}
instance:Za 254 (Value.agg (List.replicate 256 (Value.bool false)).toArray):={}
instance:Ca 254 256 256:={}
instance:Id 254 256 4:={}
instance:Oa 258:={}
instance:Za 258 (Value.pointer none):={}
instance:Ca 258 1 8:={}
instance:Ic 258:=⟨_,(by kernel_rfl:Program.underlying _ _=some (.pointer 254))⟩
instance:Oa 265:={}
instance:Za 265 (Value.pointer none):={}
instance:Ca 265 1 8:={}
instance:Ic 265:=⟨_,(by kernel_rfl:Program.underlying _ _=some (.pointer 5))⟩
instance:Oa 268:={}
instance:Za 268 (Value.pointer none):={}
instance:Ca 268 1 8:={}
instance:Ic 268:=⟨_,(by kernel_rfl:Program.underlying _ _=some (.pointer 80))⟩
instance:Oa 270:={}
instance:Za 270 (Value.pointer none):={}
instance:Ca 270 1 8:={}
instance:Ic 270:=⟨_,(by kernel_rfl:Program.underlying _ _=some (.pointer 21))⟩
instance:Oa 272:={}
instance:Za 272 (Value.pointer none):={}
instance:Ca 272 1 8:={}
instance:Oa 279:={}
instance:Za 279 (Value.nilFunc):={}
instance:Ca 279 1 8:={}
instance:Aa 280 30:={}
instance:Za 280 (Value.agg (List.replicate 30 (Value.nilFunc)).toArray):={}
instance:Ca 280 30 240:={}
instance:Id 280 6 233:={}
instance:Oa 288:={}
instance:Za 288 (Value.int .u64 0):={}
instance:Ca 288 1 8:={}
instance:Ia 288 .u64:={}
instance:Aa 299 3:={}
instance:Za 299 (Value.agg #[Value.string .empty,Value.string .empty,Value.nilIface]):={}
instance:Ca 299 3 48:={}
instance:Aa 301 24:={}
instance:Za 301 (Value.agg (List.replicate 24 (Value.int .u8 0)).toArray):={}
instance:Ca 301 24 24:={}
instance:Id 301 24 5:={}
instance:Oa 312:={}
instance:Za 312 (Value.map none):={}
instance:Ca 312 1 8:={}
instance:IsMap prog 312 21 5:={}
instance:Oa 324:={}
instance:Za 324 (Value.nilFunc):={}
instance:Ca 324 1 8:={}
instance:Aa 325 8:={}
instance:Za 325 (Value.agg (List.replicate 8 (Value.int .u8 0)).toArray):={}
instance:Ca 325 8 8:={}
instance:Id 325 8 5:={}
instance:Oa 331:={}
instance:Za 331 (Value.pointer none):={}
instance:Ca 331 1 8:={}
instance:Ic 331:=⟨_,(by kernel_rfl:Program.underlying _ _=some (.pointer 333))⟩
instance:Aa 333 3:={}
instance:Za 333 (Value.agg #[Value.string .empty,Value.int .i64 0,Value.int .i64 0]):={}
instance:Ca 333 3 32:={}
instance:Oa 337:={}
instance:Za 337 (Value.pointer none):={}
instance:Ca 337 1 8:={}
instance:Ic 337:=⟨_,(by kernel_rfl:Program.underlying _ _=some (.pointer 339))⟩
instance:Aa 339 1:={}
instance:Za 339 (Value.agg #[Value.string .empty]):={}
instance:Ca 339 1 16:={}
instance:Aa 341 20:={}
instance:Za 341 (Value.agg (List.replicate 20 (Value.int .u64 0)).toArray):={}
instance:Ca 341 20 160:={}
instance:Id 341 20 236:={}
instance:Aa 342 65:={}
instance:Za 342 (Value.agg (List.replicate 65 (Value.int .u8 0)).toArray):={}
instance:Ca 342 65 65:={}
instance:Id 342 65 5:={}
instance:Aa 347 256:={}
instance:Za 347 (Value.agg (List.replicate 256 (Value.int .u8 0)).toArray):={}
instance:Ca 347 256 256:={}
instance:Id 347 256 5:={}
instance:Aa 349 2:={}
instance:Za 349 (Value.agg #[Value.int .u8 0,Value.int .u8 0]):={}
instance:Ca 349 2 2:={}
instance:Aa 350 32:={}
instance:Za 350 (Value.agg (List.replicate 32 (Value.int .u8 0)).toArray):={}
instance:Ca 350 32 32:={}
instance:Id 350 16 349:={}
instance:Aa 354 32:={}
instance:Za 354 (Value.agg (List.replicate 32 (Value.int .u8 0)).toArray):={}
instance:Ca 354 32 32:={}
instance:Id 354 32 5:={}
instance:Aa 355 64:={}
instance:Za 355 (Value.agg (List.replicate 64 (Value.int .u8 0)).toArray):={}
instance:Ca 355 64 64:={}
instance:Id 355 64 5:={}
instance:Oa 368:={}
instance:Za 368 (Value.slice none 0 0):={}
instance:Ca 368 1 24:={}
instance:Ib 368 39:={}
instance:Aa 371 3:={}
instance:Za 371 (Value.agg #[Value.int .u64 0,Value.int .u64 0,Value.int .u64 0]):={}
instance:Ca 371 3 24:={}
instance:Oa 372:={}
instance:Za 372 (Value.nilFunc):={}
instance:Ca 372 1 8:={}
instance:Oa 376:={}
instance:Za 376 (Value.nilFunc):={}
instance:Ca 376 1 8:={}
instance:Oa 382:={}
instance:Za 382 (Value.slice none 0 0):={}
instance:Ca 382 1 24:={}
instance:Ib 382 27:={}
instance:Oa 385:={}
instance:Za 385 (Value.slice none 0 0):={}
instance:Ca 385 1 24:={}
instance:Ib 385 371:={}
instance:Oa 389:={}
instance:Za 389 (Value.int .i64 0):={}
instance:Ca 389 1 8:={}
instance:Ia 389 .i64:={}
instance:Oa 396:={}
instance:Za 396 (Value.int .u64 0):={}
instance:Ca 396 1 8:={}
instance:Ia 396 .u64:={}
instance:Oa 400:={}
instance:Za 400 (Value.pointer none):={}
instance:Ca 400 1 8:={}
instance:Ic 400:=⟨_,(by kernel_rfl:Program.underlying _ _=some (.pointer 3))⟩
instance:Oa 402:={}
instance:Za 402 (Value.pointer none):={}
instance:Ca 402 1 8:={}
instance:Ic 402:=⟨_,(by kernel_rfl:Program.underlying _ _=some (.pointer 396))⟩
instance:Oa 405:={}
instance:Za 405 (Value.slice none 0 0):={}
instance:Ca 405 1 24:={}
instance:Ib 405 406:={}
instance:Aa 406 3:={}
instance:Za 406 (Value.agg #[Value.slice none 0 0,Value.slice none 0 0,Value.int .i64 0]):={}
instance:Ca 406 3 56:={}
instance:Oa 409:={}
instance:Za 409 (Value.nilFunc):={}
instance:Ca 409 1 8:={}
instance:Oa 410:={}
instance:Za 410 (Value.map none):={}
instance:Ca 410 1 8:={}
instance:IsMap prog 410 9 412:={}
instance:Oa 412:={}
instance:Za 412 (Value.pointer none):={}
instance:Ca 412 1 8:={}
instance:Ic 412:=⟨_,(by kernel_rfl:Program.underlying _ _=some (.pointer 414))⟩
instance:Aa 414 2:={}
instance:Za 414 (Value.agg #[Value.slice none 0 0,Value.slice none 0 0]):={}
instance:Ca 414 2 48:={}
instance:Aa 416 2:={}
instance:Za 416 (Value.agg #[Value.slice none 0 0,Value.slice none 0 0]):={}
instance:Ca 416 2 48:={}
instance:Oa 419:={}
instance:Za 419 (Value.nilFunc):={}
instance:Ca 419 1 8:={}
instance:Oa 420:={}
instance:Za 420 (Value.nilFunc):={}
instance:Ca 420 1 8:={}
instance:Oa 425:={}
instance:Za 425 (Value.nilFunc):={}
instance:Ca 425 1 8:={}
instance:Oa 428:={}
instance:Za 428 (Value.nilFunc):={}
instance:Ca 428 1 8:={}
instance:Ba 26 ((Value.slice none 0 0)::(Value.slice none 0 0)::(Value.int .i64 0)::[]) [(0,1),(1,1),(2,1)]:=⟨λ_=>kR,_,underlying26,λ_=>kR⟩
instance:Ba 39 ((Value.slice none 0 0)::(Value.int .i64 0)::[]) [(0,1),(1,1)]:=⟨λ_=>kR,_,underlying39,λ_=>kR⟩
instance:Ba 41 ((Value.bool false)::(Value.int .i64 0)::(Value.string .empty)::[]) [(0,1),(1,1),(2,1)]:=⟨λ_=>kR,_,underlying41,λ_=>kR⟩
instance:Ba 49 ((Value.string .empty)::(Value.slice none 0 0)::[]) [(0,1),(1,1)]:=⟨λ_=>kR,_,underlying49,λ_=>kR⟩
instance:Ba 65 ((Value.int .i64 0)::(Value.bool false)::[]) [(0,1),(1,1)]:=⟨λ_=>kR,_,underlying65,λ_=>kR⟩
instance:Ba 67 ((Value.int .i64 0)::(Value.string .empty)::(Value.int .i64 0)::(Value.bool false)::(Value.bool false)::(Value.int .i64 0)::(Value.string .empty)::[]) [(0,1),(1,1),(2,2),(4,3)]:=⟨λ_=>kR,_,underlying67,λ_=>kR⟩
instance:Ba 70 ((Value.slice none 0 0)::[]) [(0,1)]:=⟨λ_=>kR,_,underlying70,λ_=>kR⟩
instance:Ba 87 ((Value.slice none 0 0)::(Value.slice none 0 0)::(Value.slice none 0 0)::(Value.int .i64 0)::(Value.slice none 0 0)::(Value.nilIface)::(Value.int .u32 0)::(Value.int .i32 0)::(Value.int .u32 0)::(Value.nilFunc)::[]) [(0,1),(1,3),(4,1),(5,1),(6,3),(9,1)]:=⟨λ_=>kR,_,underlying87,λ_=>kR⟩
instance:Ba 93 ((Value.pointer none)::(Value.int .i64 0)::[]) [(0,1),(1,1)]:=⟨λ_=>kR,_,underlying93,λ_=>kR⟩
instance:Ba 97 ((Value.int .i64 0)::(Value.int .i64 0)::(Value.string .empty)::[]) [(0,1),(1,1),(2,1)]:=⟨λ_=>kR,_,underlying97,λ_=>kR⟩
instance:Ba 99 ((Value.slice none 0 0)::(Value.slice none 0 0)::(Value.slice none 0 0)::(Value.int .i64 0)::(Value.slice none 0 0)::(Value.slice none 0 0)::[]) [(0,1),(1,3),(4,1),(5,1)]:=⟨λ_=>kR,_,underlying99,λ_=>kR⟩
instance:Ba 118 ((Value.bool false)::(Value.int .i64 0)::(Value.int .i64 0)::(Value.map none)::[]) [(0,1),(1,1),(2,1),(3,1)]:=⟨λ_=>kR,_,underlying118,λ_=>kR⟩
instance:Ba 133 ((Value.slice none 0 0)::(Value.slice none 0 0)::(Value.int .i64 0)::[]) [(0,1),(1,1),(2,1)]:=⟨λ_=>kR,_,underlying133,λ_=>kR⟩
instance:Ba 185 ((Value.int .i64 0)::(Value.int .i64 0)::(Value.slice none 0 0)::[]) [(0,1),(1,1),(2,1)]:=⟨λ_=>kR,_,underlying185,λ_=>kR⟩
instance:Ba 190 ((Value.slice none 0 0)::(Value.int .i64 0)::(Value.slice none 0 0)::[]) [(0,1),(1,1),(2,1)]:=⟨λ_=>kR,_,underlying190,λ_=>kR⟩
instance:Ba 233 ((Value.nilFunc)::(Value.nilFunc)::(Value.nilFunc)::(Value.nilFunc)::(Value.nilFunc)::[]) [(0,1),(1,1),(2,1),(3,1),(4,1)]:=⟨λ_=>kR,_,underlying233,λ_=>kR⟩
instance:Ba 299 ((Value.string .empty)::(Value.string .empty)::(Value.nilIface)::[]) [(0,1),(1,1),(2,1)]:=⟨λ_=>kR,_,underlying299,λ_=>kR⟩
instance:Ba 333 ((Value.string .empty)::(Value.int .i64 0)::(Value.int .i64 0)::[]) [(0,1),(1,1),(2,1)]:=⟨λ_=>kR,_,underlying333,λ_=>kR⟩
instance:Ba 339 ((Value.string .empty)::[]) [(0,1)]:=⟨λ_=>kR,_,underlying339,λ_=>kR⟩
instance:Ba 349 ((Value.int .u8 0)::(Value.int .u8 0)::[]) [(0,1),(1,1)]:=⟨λ_=>kR,_,underlying349,λ_=>kR⟩
instance:Ba 371 ((Value.int .u64 0)::(Value.int .u64 0)::(Value.int .u64 0)::[]) [(0,1),(1,1),(2,1)]:=⟨λ_=>kR,_,underlying371,λ_=>kR⟩
instance:Ba 406 ((Value.slice none 0 0)::(Value.slice none 0 0)::(Value.int .i64 0)::[]) [(0,1),(1,1),(2,1)]:=⟨λ_=>kR,_,underlying406,λ_=>kR⟩
instance:Ba 414 ((Value.slice none 0 0)::(Value.slice none 0 0)::[]) [(0,1),(1,1)]:=⟨λ_=>kR,_,underlying414,λ_=>kR⟩
instance:Ba 416 ((Value.slice none 0 0)::(Value.slice none 0 0)::[]) [(0,1),(1,1)]:=⟨λ_=>kR,_,underlying416,λ_=>kR⟩
instance:Fa 26 0 0:={}
instance:Fa 26 1 1:={}
instance:Fa 26 2 2:={}
instance:Fa 39 0 0:={}
instance:Fa 39 1 1:={}
instance:Fa 41 0 0:={}
instance:Fa 41 1 1:={}
instance:Fa 41 2 2:={}
instance:Fa 49 0 0:={}
instance:Fa 49 1 1:={}
instance:Fa 65 0 0:={}
instance:Fa 65 1 1:={}
instance:Fa 67 0 0:={}
instance:Fa 67 2 2:={}
instance:Fa 70 0 0:={}
instance:Fa 78 1 0:={}
instance:Fa 80 0 0:={}
instance:Fa 80 1 1:={}
instance:Fa 82 1 0:={}
instance:Fa 84 1 0:={}
instance:Fa 84 2 1:={}
instance:Fa 87 0 0:={}
instance:Fa 87 1 1:={}
instance:Fa 87 3 5:={}
instance:Fa 87 4 6:={}
instance:Fa 87 5 9:={}
instance:Fa 93 0 0:={}
instance:Fa 93 1 1:={}
instance:Fa 97 0 0:={}
instance:Fa 97 1 1:={}
instance:Fa 97 2 2:={}
instance:Fa 99 0 0:={}
instance:Fa 99 1 1:={}
instance:Fa 99 3 5:={}
instance:Fa 102 0 0:={}
instance:Fa 102 1 3:={}
instance:Fa 118 0 0:={}
instance:Fa 118 1 1:={}
instance:Fa 118 2 2:={}
instance:Fa 118 3 3:={}
instance:Fa 133 0 0:={}
instance:Fa 133 1 1:={}
instance:Fa 133 2 2:={}
instance:Fa 157 0 0:={}
instance:Fa 172 0 0:={}
instance:Fa 185 0 0:={}
instance:Fa 185 1 1:={}
instance:Fa 185 2 2:={}
instance:Fa 190 0 0:={}
instance:Fa 190 1 1:={}
instance:Fa 190 2 2:={}
instance:Fa 209 0 0:={}
instance:Fa 209 1 1:={}
instance:Fa 333 0 0:={}
instance:Fa 333 1 1:={}
instance:Fa 333 2 2:={}
instance:Fa 349 0 0:={}
instance:Fa 349 1 1:={}
instance:Fa 371 0 0:={}
instance:Fa 371 1 1:={}
instance:Fa 371 2 2:={}
instance:Fa 406 0 0:={}
instance:Fa 406 1 1:={}
instance:Fa 406 2 2:={}
instance:Fa 414 0 0:={}
instance:Fa 414 1 1:={}
instance:Fa 416 0 0:={}
instance:Fa 416 1 1:={}
instance:C8 prog 233 0 0 228:=⟨_,underlying233,rfl⟩
instance:C8 prog 233 1 1 229:=⟨_,underlying233,rfl⟩
instance:C8 prog 233 2 2 230:=⟨_,underlying233,rfl⟩
instance:C8 prog 416 1 1 188:=⟨_,underlying416,rfl⟩
def ig (l:L8):Option (Nat×Nat):=if l=[]\/((decodeL l).1=65533/\(decodeL l).2=1)then none else some (decodeL l)
def JD (r:Int):Option (L8):=if r<0\/1114111<r\/(55296<=r/\r<=57343)then none else some (encodeRune r)
def xU:L8->Nat
 | [a]=>a.toNat
 | [a,b]=>64*(a.toNat%32)+b.toNat%64
 | [a,b,c]=>64*(64*(a.toNat%16)+b.toNat%64)+c.toNat%64
 | [a,b,c,d]=>64*(64*(64*(a.toNat%8)+b.toNat%64)+c.toNat%64)+d.toNat%64
 | _=>0
def okL (l:L8) (k:Nat):Prop:=JD (xU (l.take k):Nat)=some (l.take k)
instance (l:L8) (k:Nat):Decidable (okL l k):=by unfold okL;infer_instance

variable {n:Nat}
def abV {a:UInt8}:n.toUInt8=a↔n%256=a.toNat:=by
 rw[<-UInt8.toNat_inj];simp
variable {a b c d:UInt8} {t:L8}
def ok1:okL (a::t) 1↔a.toNat<128:=by
 have ha:=a.toNat_lt;unfold okL;simp only[zcy,zdf,xU];unfold JD;rw[zab oM];constructor
 .intro h
  refine Classical.byContradiction λhn=>?_;rw[encodeRune,encodeRuneZ_two oM oM]at h;simp at h
 intro h;rw[encodeRune,encodeRuneZ_one oM oM];simp
def ok2:okL (a::b::t) 2↔a.toNat/32=6/\b.toNat/64=2/\128<=a.toNat%32*64+b.toNat%64:=by
 have ha:=a.toNat_lt;have hb:=b.toNat_lt;unfold okL;simp only[zcy,zdf,xU];unfold JD;rw[zab oM]
 by_cases h0:64*(a.toNat%32)+b.toNat%64<128
 .rw[encodeRune,encodeRuneZ_one oM oM]
  simp;omega
 rw[encodeRune,encodeRuneZ_two oM oM];simp only[zav,zcl,Option.some.injEq,List.cons.injEq,and_true,abV];omega
def ok3:okL (a::b::c::t) 3↔a.toNat/16=14/\b.toNat/64=2/\c.toNat/64=2/\2048<=a.toNat%16*4096+b.toNat%64*64+c.toNat%64/\
    (a.toNat%16*4096+b.toNat%64*64+c.toNat%64<55296\/57344<=a.toNat%16*4096+b.toNat%64*64+c.toNat%64):=by
  have ha:=a.toNat_lt;have hb:=b.toNat_lt;have hc:=c.toNat_lt;unfold okL;simp only[zcy,zdf,xU];unfold JD
  by_cases hs:55296<=64*(64*(a.toNat%16)+b.toNat%64)+c.toNat%64/\64*(64*(a.toNat%16)+b.toNat%64)+c.toNat%64<=57343
  . rw[zac oM]
    simp;omega
  rw[zab oM]
  by_cases h0:64*(64*(a.toNat%16)+b.toNat%64)+c.toNat%64<128
  . rw[encodeRune,encodeRuneZ_one oM oM]
    simp;omega
  by_cases h1:64*(64*(a.toNat%16)+b.toNat%64)+c.toNat%64<2048
  . rw[encodeRune,encodeRuneZ_two oM oM]
    simp;omega
  rw[encodeRune,encodeRuneZ_three oM];simp only[zav,zcl,Option.some.injEq,List.cons.injEq,and_true,abV];omega
def ok4:okL (a::b::c::d::t) 4↔a.toNat/8=30/\b.toNat/64=2/\c.toNat/64=2/\d.toNat/64=2/\65536<=a.toNat%8*262144+b.toNat%64*4096+c.toNat%64*64+d.toNat%64/\
    a.toNat%8*262144+b.toNat%64*4096+c.toNat%64*64+d.toNat%64<=1114111:=by
  have ha:=a.toNat_lt;have hb:=b.toNat_lt;have hc:=c.toNat_lt;have hd:=d.toNat_lt;unfold okL;simp only[zcy,zdf,xU];unfold JD;obtain⟨n,hn⟩: ∃n,n=64*(64*(64*(a.toNat%8)+b.toNat%64)+c.toNat%64)+d.toNat%64:=⟨_,rfl⟩;rw[<-hn]
  by_cases hs:1114111<n\/(55296<=n/\n<=57343)
  . rw[zac oM]
    simp;omega
  rw[zab oM]
  by_cases h0:n<128
  . rw[encodeRune,encodeRuneZ_one oM oM]
    simp;omega
  by_cases h1:n<2048
  . rw[encodeRune,encodeRuneZ_two oM oM]
    simp;omega
  by_cases h2:n<65536
  . rw[encodeRune,encodeRuneZ_three oM]
    simp;omega
  rw[encodeRune,encodeRuneZ_four oM oM];simp only[zav,zcl,Option.some.injEq,List.cons.injEq,and_true,abV];omega
def qK (a:UInt8) (t:L8):decodeL (a::t)=decodeN (t.length+1) a.toNat (t.getD 0 0).toNat (t.getD 1 0).toNat (t.getD 2 0).toNat:=by
 rw[decodeL_N];rfl
def zZ {l:L8} {k:Nat} (h1:1<=k) (h4:k<=4) (hk:k<=l.length) (h:okL l k):ig l=some (xU (l.take k),k):=by
 have Oz:k=1\/k=2\/k=3\/k=4:=oM;unfold ig
 rcases Oz with rfl | rfl | rfl | rfl
 .obtain⟨a,t,rfl⟩: ∃a t,l=a::t:=by cases l with | nil=>simp at hk | cons a t=>exact⟨a,t,rfl⟩
  have h:=ok1.1 h;have hd:decodeL (a::t)=(a.toNat,1):=by rw[qK,decodeN,zac h]
  rw[hd,zab (by simp;omega)];rfl
 .obtain⟨a,b,t,rfl⟩: ∃a b t,l=a::b::t:=by match l,hk with | a::b::t,_=>exact⟨a,b,t,rfl⟩
  obtain⟨h2,h3,h5⟩:=ok2.1 h
  have hd:decodeL (a::b::t)=(a.toNat%32*64+b.toNat%64,2):=by
   rw[qK,decodeN,zab oM,zac ⟨h2,sM,by simpa using h3⟩];simp only[zfg];rw[zac h5]
  rw[hd,zab sM];simp only[zcy,zdf,xU]
  congr 2;omega
 .obtain⟨a,b,c,t,rfl⟩: ∃a b c t,l=a::b::c::t:=by match l,hk with | a::b::c::t,_=>exact⟨a,b,c,t,rfl⟩
  obtain⟨h2,h3,h5,h6,h7⟩:=ok3.1 h
  have hd:decodeL (a::b::c::t)=(a.toNat%16*4096+b.toNat%64*64+c.toNat%64,3):=by
   rw[qK,decodeN,zab oM,zab oM,zac ⟨h2,⟨sM,by simpa using h3⟩,sM,by simpa using h5⟩];simp only[zfg,zga];rw[zac ⟨h6,oM⟩]
  rw[hd,zab sM];simp only[zcy,zdf,xU]
  congr 2;omega
 obtain⟨a,b,c,d,t,rfl⟩: ∃a b c d t,l=a::b::c::d::t:=by match l,hk with | a::b::c::d::t,_=>exact⟨a,b,c,d,t,rfl⟩
 obtain⟨h2,h3,h5,h6,h7,h8⟩:=ok4.1 h
 have hd:decodeL (a::b::c::d::t)=(a.toNat%8*262144+b.toNat%64*4096+c.toNat%64*64+d.toNat%64,4):=by
  rw[qK,decodeN,zab oM,zab oM,zab oM,zac ⟨h2,⟨sM,by simpa using h3⟩,⟨sM,by simpa using h5⟩,sM,by simpa using h6⟩];simp only[zfg,zga];rw[zac ⟨h7,oM⟩]
 rw[hd,zab sM];simp only[zcy,zdf,xU]
 congr 2;omega
variable {l:L8}
def JE (h: ∀k,1<=k->k<=4->k<=l.length->¬okL l k):ig l=none:=by
  unfold ig
  match l,h with
  | [],_=>rw[zac (.inl rfl)]
  | a::t,h=>
    rw[qK]
    rcases decodeN_shape (t.length+1) a.toNat (t.getD 0 0).toNat (t.getD 1 0).toNat (t.getD 2 0).toNat with⟨c,e⟩ | ⟨c1,c2,c3,cv,e⟩ | ⟨c1,c2,c3,c4,cv,cs,e⟩ | ⟨c1,c2,c3,c4,c5,cv,cw,e⟩ | e
    . exact zar (ok1.2 c) (h 1 oM oM sM)
    . obtain⟨b,u,rfl⟩: ∃b u,t=b::u:=by cases t with | nil=>simp at c2 | cons b u=>exact⟨b,u,rfl⟩
      exact zar (ok2.2 ⟨c1,c3,cv⟩) (h 2 oM oM sM)
    . obtain⟨b,c,u,rfl⟩: ∃b c u,t=b::c::u:=by
        cases t with
        | nil=>simp at c2
        | cons b u=>cases u with
          | nil=>simp at c2
          | cons c u=>exact⟨b,c,u,rfl⟩
      exact zar (ok3.2 ⟨c1,c3,c4,cv,cs⟩) (h 3 oM oM sM)
    . obtain⟨b,c,d,u,rfl⟩: ∃b c d u,t=b::c::d::u:=by
        cases t with
        | nil=>simp at c2
        | cons b u=>cases u with
          | nil=>simp at c2
          | cons c u=>cases u with
            | nil=>simp at c2
            | cons d u=>exact⟨b,c,d,u,rfl⟩
      exact zar (ok4.2 ⟨c1,c3,c4,c5,cv,cw⟩) (h 4 oM oM sM)
    rw[e,zac (.inr ⟨rfl,rfl⟩)]
variable {r:Nat}
def uw (h:ig l=some (r,n)):decodeL l=(r,n)/\1<=n/\n<=l.length/\encodeRune (r:Int)=l.take n:=by
 unfold ig at h
 split at h
 .cases h
 rename_i hn;injection h with h
 have iN:l≠[]:=λe=>hn (.inl e);have hv: ¬((decodeL l).1=65533/\(decodeL l).2=1):=λe=>hn (.inr e);have h1:=encode_decode l iN hv;have h2:=decodeL_le l iN;have h3:=decodeL_width l;rw[h]at h1 h2 h3;exact⟨h,h3,h2,h1⟩
def Ev (iN:l≠[]):validD l=match ig l with | none=>false | some (_,n)=>validD (l.drop n):=by
 rw[validD_step l iN];unfold ig
 by_cases h:(decodeL l).1=65533/\(decodeL l).2=1
 .rw[zac h,zac (.inr h)]
 rw[zab h,zab (λe=>e.elim iN h)]
def ni (n:Nat):UInt8:=if n<10 then(48+n).toUInt8 else(87+n).toUInt8
def jy (c:UInt8):L8:=
 if c=34 then [92,34]else if c=92 then [92,92]else if c=8 then [92,98]else if c=12 then [92,102]else if c=10 then [92,110]else if c=13 then [92,114]else if c=9 then [92,116]
 else if c<32 then [92,117,48,48,ni (c.toNat/16),ni (c.toNat%16)]else [c]
def vF (s:L8):L8:=34::(s.flatMap jy++[34])
def nJ (c:UInt8):Option Nat:=if 48<=c.toNat/\c.toNat<=57 then some (c.toNat-48)else if 97<=c.toNat/\c.toNat<=102 then some (c.toNat-87)else if 65<=c.toNat/\c.toNat<=70 then some (c.toNat-55)else none
def sD (s:L8) (second:Bool):Nat×Int:=
 match s[0]? with
 | none=>(0,3)
 | some c0=>match nJ c0 with
  | none=>(0,41)
  | some d0=>if second=true/\d0≠13 then(0,41)else match s[1]? with
   | none=>(0,3)
   | some c1=>match nJ c1 with
    | none=>(0,41)
    | some d1=>if second≠decide (220<=16*d0+d1/\16*d0+d1<=223)then(0,41)else match s[2]? with
     | none=>(0,3)
     | some c2=>match nJ c2 with
      | none=>(0,41)
      | some d2=>match s[3]? with
       | none=>(0,3)
       | some c3=>match nJ c3 with
        | none=>(0,41)
        | some d3=>(16*(16*(16*d0+d1)+d2)+d3,0)
def NY (c:UInt8):Option UInt8:=
 if c=34 then some 34 else if c=92 then some 92 else if c=47 then some 47 else if c=98 then some 8 else if c=102 then some 12 else if c=110 then some 10 else if c=114 then some 13 else if c=116 then some 9 else none
def aaj (s:L8) (n:Nat):L8×Nat×Int:=
 match s[6]? with
 | none=>([],0,3)
 | some c6=>if c6≠92 then([],0,41)else match s[7]? with
  | none=>([],0,3)
  | some c7=>if c7≠117 then([],0,41)else
   let k:=sD (s.drop 8) true
   if k.2≠0 then([],0,k.2)else(encodeRune (65536+1024*((n:Int)-55296)+k.1-56320),12,0)
def xV (s:L8):L8×Nat×Int:=
 match s[1]? with
 | none=>([],0,3)
 | some c=>match NY c with
  | some b=>([b],2,0)
  | none=>if c≠117 then([],0,41)else
   let h:=sD (s.drop 2) false
   if h.2≠0 then([],0,h.2)
   else if h.1<55296\/56319<h.1 then(encodeRune h.1,6,0)
   else aaj s h.1
def abW:L8->Bool
  | [a]=>decide (194<=a.toNat/\a.toNat<=244)
  | [a,b]=>decide ((a.toNat=224/\160<=b.toNat/\b.toNat<=191)\/((225<=a.toNat/\a.toNat<=236\/238<=a.toNat/\a.toNat<=239)/\128<=b.toNat/\b.toNat<=191)\/(a.toNat=237/\128<=b.toNat/\b.toNat<=159)\/
      (a.toNat=240/\144<=b.toNat/\b.toNat<=191)\/(241<=a.toNat/\a.toNat<=243/\128<=b.toNat/\b.toNat<=191)\/(a.toNat=244/\128<=b.toNat/\b.toNat<=143))
  | [a,b,c]=>decide (((a.toNat=240/\144<=b.toNat/\b.toNat<=191)\/(241<=a.toNat/\a.toNat<=243/\128<=b.toNat/\b.toNat<=191)\/(a.toNat=244/\128<=b.toNat/\b.toNat<=143))/\128<=c.toNat/\c.toNat<=191)
  | _=>false
def sF:Nat->L8->Nat->L8->L8×Nat×Int
 | 0,_,_,_=>([],0,3)
 | f+1,rest,i,out=>match rest with
  | []=>([],0,3)
  | c::t=>if c=34 then(out,i+1,0)else if c<32 then([],0,41)
   else if c=92 then(let e:=xV (c::t);if e.2.2≠0 then([],0,e.2.2)else sF f ((c::t).drop e.2.1) (i+e.2.1) (out++e.1))
   else match ig (c::t)with
    | some (_,n)=>sF f ((c::t).drop n) (i+n) (out++(c::t).take n)
    | none=>([],0,if abW (c::t)then 3 else 40)
def Uv (s:L8):L8×Nat×Int:=
 match s with
 | []=>([],0,3)
 | c::t=>if c≠34 then([],0,41)else sF (t.length+1) t 1 []
def NZ (s:L8):(∃e:Int,e≠0/\xV s=([],0,e))\/∃b n,1<=n/\xV s=(b,n,0):=by
 obtain⟨x,hx⟩: ∃x,x=xV s:=⟨_,rfl⟩;rw[<-hx];unfold xV aaj at hx;dsimp only at hx
 repeat' split at hx
 all_goals first
  | exact .inl ⟨_,dC,hx⟩
  | exact .inr ⟨_,_,dC,hx⟩
  | exact .inl ⟨_,by assumption,hx⟩
def aez: ∀{f g:Nat} {rest:L8} {i:Nat} {out:L8},rest.length<f->rest.length<g->sF f rest i out=sF g rest i out:=by
 intro f
 induction f with
 | zero=>intro g rest i out h;exact zar h (zdv _)
 | succ f ih=>
  intro g rest i out hf hg;cases g with
  | zero=>exact zar hg (zdv _)
  | succ g=>
   cases rest with
   | nil=>rfl
   | cons c t=>
    unfold sF
    have alj: ∀k,1<=k->((c::t).drop k).length<f/\((c::t).drop k).length<g:=λk hk=>by
     rw[zbo];simp only[zas]at hf hg ⊢;omega
    dsimp only
    split
    .rfl
    split
    .rfl
    split
    .split
     .rfl
     rename_i he
     have h1:1<=(xV (c::t)).2.1:=by
      rcases NZ (c::t)with⟨e,h0,hx⟩ | ⟨b,n,hn,hx⟩
      .rw[hx]at he;exact zar h0 he
      rw[hx];exact hn
     obtain⟨a,b⟩:=alj _ h1;exact ih a b
    cases hn:ig (c::t)with
    | none=>rfl
    | some x=>
     obtain⟨r,n⟩:=x;obtain⟨_,h1,_,_⟩:=uw hn;obtain⟨a,b⟩:=alj _ h1;exact ih a b
structure bM where
 kind:Int
 null:Bool
structure aC where
 null:Bool
 n:Int
 s:L8
structure bY where
 id:Int
 name:L8
 type:bM
 dflt:aC
structure bI where
 kind:Int
 n:Int
 s:L8
def bM.ext' {a b:bM} (h1:a.kind=b.kind) (h2:a.null=b.null):a=b:=by cases a;cases b;simp_all
def aC.ext' {a b:aC} (h1:a.null=b.null) (h2:a.n=b.n) (h3:a.s=b.s):a=b:=by cases a;cases b;simp_all
def bI.ext' {a b:bI} (h1:a.kind=b.kind) (h2:a.n=b.n) (h3:a.s=b.s):a=b:=by cases a;cases b;simp_all
def bY.ext' {a b:bY} (h1:a.id=b.id) (h2:a.name=b.name) (h3:a.type=b.type) (h4:a.dflt=b.dflt):a=b:=by cases a;cases b;simp_all
instance:DecidableEq bM:=λa b=>decidable_of_iff (a.kind=b.kind/\a.null=b.null) ⟨λh=>bM.ext' h.1 h.2,λh=>by subst h;exact⟨rfl,rfl⟩⟩
instance:DecidableEq aC:=λa b=>decidable_of_iff (a.null=b.null/\a.n=b.n/\a.s=b.s) ⟨λh=>aC.ext' h.1 h.2.1 h.2.2,λh=>by subst h;exact⟨rfl,rfl,rfl⟩⟩
instance:DecidableEq bI:=λa b=>decidable_of_iff (a.kind=b.kind/\a.n=b.n/\a.s=b.s) ⟨λh=>bI.ext' h.1 h.2.1 h.2.2,λh=>by subst h;exact⟨rfl,rfl,rfl⟩⟩
instance:DecidableEq bY:=λa b=>decidable_of_iff (a.id=b.id/\a.name=b.name/\a.type=b.type/\a.dflt=b.dflt) ⟨λh=>bY.ext' h.1 h.2.1 h.2.2.1 h.2.2.2,λh=>by subst h;exact⟨rfl,rfl,rfl,rfl⟩⟩
def cell0:aC:=⟨false,0,[]⟩
def bF:aC:=⟨true,0,[]⟩
def gT:bM:=⟨0,false⟩
def nZ (t:bM):Bool:=decide (1<=t.kind/\t.kind<=5)
def isC (kind:Int) (c:aC):Bool:=
 if kind=1 then decide (c.s=[]/\0<=c.n/\c.n<=1)
 else if kind=2 then decide (c.s=[]/\ -2147483648<=c.n/\c.n<=2147483647)
 else if kind=3 then decide (c.s=[])
 else if kind=4 then decide (c.n=0/\c.s.length<=1024/\validD c.s=true)
 else decide (c.n=0/\c.s.length<=1024)
def gJ (t:bM) (c:aC):Int:=
 if nZ t=false then 2 else if c.null=true then(if t.null=true/\c=bF then 0 else 90)else if isC t.kind c=true then 0 else 90
def dP (x:bI):Bool:=
 if x.kind=1 then decide (x.s=[]/\1<=x.n/\x.n<=1048576)
 else if x.kind=2 then decide (x.s=[])
 else if x.kind=3 then decide (x.s=[]/\0<=x.n/\x.n<=1)
 else if x.kind=4 then decide (x.n=0/\x.s.length<=1024/\validD x.s=true)
 else if x.kind=5 then decide (x.n=0/\x.s.length<=1024)
 else if x.kind=6 then decide (x.s=[]/\(x.n=1\/(3<=x.n/\x.n<=5)))
 else decide (7<=x.kind/\x.kind<=18/\x.n=0/\x.s=[])
def dA (kind:Int):Nat:=if kind<7 then 0 else if kind=10\/kind=15\/kind=16\/kind=18 then 1 else 2
def og (cols:List bY) (id:Int):Option Nat:=cols.findIdx? λc=>decide (c.id=id)
def qL (cols:List bY) (x:bI):Option bM:=
 if x.kind=1 then(match og cols x.n with
  | none=>none
  | some i=>let t:=(cols.getD i ⟨0,[],gT,cell0⟩).type
   if nZ t=false then none else some (if t.kind=2 then⟨3,t.null⟩else t))
 else if x.kind=2 then some ⟨3,false⟩
 else if x.kind=3 then some ⟨1,false⟩
 else if x.kind=4 then some ⟨4,false⟩
 else if x.kind=5 then some ⟨5,false⟩
 else some ⟨x.n,true⟩
def vG (kind:Int) (a b:bM):Option bM:=
 if kind=7\/kind=8\/kind=9\/kind=10 then(if a.kind=3/\b.kind=3 then some ⟨3,a.null||b.null⟩else none)
 else if kind=11\/kind=12 then(if a.kind=b.kind then some ⟨1,a.null||b.null⟩else none)
 else if kind=13\/kind=14\/kind=15 then(if a.kind=1/\b.kind=1 then some ⟨1,a.null||b.null⟩else none)
 else if kind=16 then some ⟨1,false⟩
 else if kind=17 then(if a.kind=b.kind then some ⟨a.kind,a.null&&b.null⟩else none)
 else(if a.kind=4\/a.kind=5 then some ⟨3,a.null||b.null⟩else none)
def stepT (cols:List bY) (st:List bM) (x:bI):Option (List bM):=
 let k:=dA x.kind
 if dP x=false\/st.length<k then none
 else(if k=0 then qL cols x else vG x.kind (st.getD (st.length-k) gT) (st.getD (st.length-1) gT)).map λt=>st.take (st.length-k)++[t]
def runT (cols:List bY):List bM->List bI->Option (List bM)
 | st,[]=>some st
 | st,x::l=>(stepT cols st x).bind λst=>runT cols st l
def iJ (cols:List bY) (l:List bI):bM×Int:=
 if 64<l.length then(gT,5)else match runT cols [] l with
  | some [t]=>(t,0)
  | _=>(gT,220)
def gW (b:Bool):aC:=if b then⟨false,1,[]⟩else cell0
def aW (n:Int):Bool:=decide (-9223372036854775808<=n/\n<=9223372036854775807)
def nk (a b:aC):Int:=
 if a.null=b.null then(if a.n<b.n then -1 else if b.n<a.n then 1 else compareBytes a.s b.s)else if a.null=true then -1 else 1
def vH (kind:Int) (a b:aC):aC:=
 if kind=13/\(a=gW false\/b=gW false)then gW false
 else if kind=14/\(a=gW true\/b=gW true)then gW true
 else if a=bF\/b=bF then bF
 else if kind=15 then gW (decide (a=gW false))
 else gW (decide (kind=13))
def jl (kind:Int) (a b:aC):Option aC:=
 if kind=13\/kind=14\/kind=15 then some (vH kind a b)
 else if kind=16 then some (gW a.null)
 else if kind=17 then some (if a.null then b else a)
 else if a.null=true\/b.null=true then some bF
 else if kind=11 then some (gW (decide (nk a b=0)))
 else if kind=12 then some (gW (decide (nk a b<0)))
 else if kind=18 then some ⟨false,a.s.length,[]⟩
 else let n:=if kind=7 then a.n+b.n else if kind=8 then a.n-b.n else if kind=9 then a.n*b.n else -a.n
  if aW n=true then some ⟨false,n,[]⟩else none
def fH (cols:List bY) (r:List aC):Int:=
 if cols.length≠r.length then 100 else((cols.zip r).map λp=>gJ p.1.type p.2).find? (λe=>decide (e≠0)) |>.getD 0
def abX (cols:List bY) (r:List aC) (st:List aC) (x:bI):Option (List aC):=
  let k:=dA x.kind
  (if k=0 then some (if x.kind=1 then r.getD ((og cols x.n).getD 0) cell0 else if x.kind=6 then bF else⟨false,x.n,x.s⟩)
   else jl x.kind (st.getD (st.length-k) cell0) (st.getD (st.length-1) cell0)).map λc=>st.take (st.length-k)++[c]
def BP (cols:List bY) (r:List aC):List aC->List bI->Option (List aC)
 | st,[]=>some st
 | st,x::l=>(abX cols r st x).bind λst=>BP cols r st l
def mJ (cols:List bY) (l:List bI) (r:List aC):aC×Int:=
 if(iJ cols l).2≠0 then(cell0,(iJ cols l).2)else if fH cols r≠0 then(cell0,fH cols r)
 else match BP cols r [] l with
  | none=>(cell0,50)
  | some st=>(st.getD 0 cell0,0)
/-! Words. -/
def oh (k:Int):L8:=if k=1 then [110,117,108,108,58,98,111,111,108]else if k=3 then [110,117,108,108,58,105,110,116,54,52]else if k=4 then [110,117,108,108,58,115,116,114,105,110,103]else if k=5 then [110,117,108,108,58,98,121,116,101,115]else []
def lN:List (L8):=[[43],[45],[42],[110,101,103],[61],[60],[97,110,100],[111,114],[110,111,116],[105,115,110,117,108,108],[101,108,115,101],[108,101,110]]
def yY (s:L8):L8:=s.flatMap λc=>[ni (c.toNat/16),ni (c.toNat%16)]
def Rq (s:L8):L8:=(vF s).flatMap λc=>if c=32 then [92,117,48,48,50,48]else [c]
def gU (x:bI):L8:=
 if x.kind=1 then 35::itoa x.n
 else if x.kind=2 then itoa x.n
 else if x.kind=3 then(if x.n=1 then [116,114,117,101]else [102,97,108,115,101])
 else if x.kind=4 then Rq x.s
 else if x.kind=5 then 120::yY x.s
 else if x.kind=6 then oh x.n
 else lN.getD (x.kind-7).toNat []
def iZ (sep:UInt8):List (L8)->L8
 | []=>[]
 | [w]=>w
 | w::l=>w++sep::iZ sep l
def iO (l:List bI):L8×Int:=
 if 64<l.length then([],5)else if(l.all dP)=false then([],2)else(iZ 32 (l.map gU),0)
def z8 {r n:Nat} (h:ig l=some (r,n)):1<=n/\n<=4/\n<=l.length/\okL l n/\r=xU (l.take n):=by
 by_cases hk: ∃k,1<=k/\k<=4/\k<=l.length/\okL l k
 .obtain⟨k,h1,h4,hl,eZ⟩:=hk
  rw[zZ h1 h4 hl eZ]at h;injection h with h
  injection h with h2 h3
  subst h3;exact⟨h1,h4,hl,eZ,h2.symm⟩
 rw[JE λk h1 h4 hl eZ=>hk ⟨k,h1,h4,hl,eZ⟩]at h;cases h
def ahz (h:ig l=some (r,n)) (t:L8):ig (l.take n++t)=some (r,n):=by
 obtain⟨h1,h4,hl,eZ,hr⟩:=z8 h
 have e:(l.take n++t).take n=l.take n:=by
  rw[zei (by rw[zah];omega),List.take_take,Nat.min_self]
 have hok':okL (l.take n++t) n:=by unfold okL at eZ ⊢;rw[e];exact eZ
 rw[zZ h1 h4 (by rw[zad,zah];omega) hok',e,hr]
def aak (h:c.toNat<128):ig (c::t)=some (c.toNat,1):=by
 have:=zZ (l:=c::t) (k:=1) oM oM sM (ok1.2 h);simpa[xU]using this
def aeA (h:ig l=some (r,n)) (hn:n≠1): ∀c∈l.take n,128<=c.toNat:=by
 obtain⟨h1,h4,hl,eZ,_⟩:=z8 h;have hn':n=2\/n=3\/n=4:=oM
 rcases hn' with rfl | rfl | rfl
 .obtain⟨a,b,t,rfl⟩: ∃a b t,l=a::b::t:=by match l,hl with | a::b::t,_=>exact⟨a,b,t,rfl⟩
  obtain⟨h2,h3,_⟩:=ok2.1 eZ;intro c hc;simp at hc
  rcases hc with rfl | rfl<;>omega
 .obtain⟨a,b,c,t,rfl⟩: ∃a b c t,l=a::b::c::t:=by match l,hl with | a::b::c::t,_=>exact⟨a,b,c,t,rfl⟩
  obtain⟨h2,h3,h5,_⟩:=ok3.1 eZ;intro x hc;simp at hc
  rcases hc with rfl | rfl | rfl<;>omega
 obtain⟨a,b,c,d,t,rfl⟩: ∃a b c d t,l=a::b::c::d::t:=by match l,hl with | a::b::c::d::t,_=>exact⟨a,b,c,d,t,rfl⟩
 obtain⟨h2,h3,h5,h6,_⟩:=ok4.1 eZ;intro x hc;simp at hc
 rcases hc with rfl | rfl | rfl | rfl<;>omega
def ahA (h:ig l=some (r,1)): ∃c t,l=c::t/\c.toNat<128:=by
 obtain⟨h1,h4,hl,eZ,_⟩:=z8 h;cases l with
 | nil=>simp at hl
 | cons c t=>exact⟨c,t,rfl,ok1.1 eZ⟩
def aeB {p:L8->Prop} (h0:p []) (h1: ∀c t,c.toNat<128->validD t=true->p t->p (c::t))
    (h2: ∀l r n,ig l=some (r,n)->n≠1->validD (l.drop n)=true->p (l.drop n)->p l): ∀{l:L8},validD l=true->p l:=by
  intro l
  induction hk:l.length using Nat.strongRecOn generalizing l with
  | _ k ih=>
    intro hv;cases l with
    | nil=>exact h0
    | cons a u=>
      rw[Ev sM]at hv;cases hn:ig (a::u)with
      | none=>rw[hn]at hv;cases hv
      | some x=>
        obtain⟨r,n⟩:=x;rw[hn]at hv;dsimp only at hv;obtain⟨k1,_,k3,_,_⟩:=z8 hn;have ae8:=ih ((a::u).drop n).length (by rw[zbo,<-hk];simp only[zas]at k3 ⊢;omega) rfl hv
        by_cases he:n=1
        . subst he
          obtain⟨c,t,e,hc⟩:=ahA hn;injection e with e1 e2
          subst e1;subst e2;exact h1 a u hc hv ae8
        exact h2 _ r n hn he hv ae8
def iM (c:UInt8):L8:=if c=32 then [92,117,48,48,50,48]else jy c
def Kw (h:128<=c.toNat):jy c=[c]:=by
 unfold jy;have e: ∀k:UInt8,k.toNat<128->c≠k:=λk hk e=>by subst e;omega
 rw[zab (e _ dC),zab (e _ dC),zab (e _ dC),zab (e _ dC),zab (e _ dC),zab (e _ dC),zab (e _ dC),zab (λh2=>by have:=UInt8.lt_iff_toNat_lt.1 h2;simp at this;omega)]
def XO (h:128<=c.toNat):iM c=[c]:=by
 unfold iM;rw[zab (λe=>by subst e;simp at h),Kw h]
def Dg (h:n<16):ni n≠32:=by
 have : ∀n:Fin 16,ni n.val≠32:=by decide
 exact this ⟨n,h⟩
def XP (c:UInt8):(jy c).flatMap (λc=>if c=32 then [92,117,48,48,50,48]else [c])=iM c:=by
 unfold iM
 by_cases h:c=32
 .subst h;rfl
 rw[zab h];have h1:ni (c.toNat/16)≠32:=Dg (by have:=c.toNat_lt;omega);have h2:ni (c.toNat%16)≠32:=Dg oM;unfold jy
 repeat' split
 all_goals simp_all
def BQ (s:L8):Rq s=34::(s.flatMap iM++[34]):=by
 unfold Rq vF;rw[zbh,zbt,List.flatMap_assoc];have e:(λc=>(jy c).flatMap (λc=>if c=32 then [92,117,48,48,50,48]else [c]))=iM:=funext XP;rw[e];rfl
def Rt {d:Nat} (h:d<16):nJ (ni d)=some d:=by
 have : ∀d:Fin 16,nJ (ni d.val)=some d.val:=by decide
 exact this ⟨d,h⟩
def ahB {a b:Nat} {t:L8} (ha:a<16) (hb:b<16):sD (48::48::ni a::ni b::t) false=(16*a+b,0):=by
 have e:nJ 48=some 0:=rfl;unfold sD;simp[e,Rt ha,Rt hb]
def ajW (h:c.toNat<128):encodeRune (c.toNat:Int)=[c]:=by
 rw[encodeRune,encodeRuneZ_one oM oM];simp
def ajX (h:c.toNat<128):xV (92::117::48::48::ni (c.toNat/16)::ni (c.toNat%16)::t)=([c],6,0):=by
 have hh:=ahB (t:=t) (show c.toNat/16<16 from oM) (show c.toNat%16<16 from oM);have e2:16*(c.toNat/16)+c.toNat%16=c.toNat:=oM;rw[e2]at hh;have e3:NY 117=none:=rfl;unfold xV;simp only[zck,zce,e3,zeq,zdd,hh];simp only[ne_eq,not_true_eq_false,if_false];rw[zac (.inl oM),ajW h]
def ahC (h:c.toNat<128) (f i:Nat) (u out:L8):sF (f+1) (iM c++u) i out=sF f u (i+(iM c).length) (out++[c]):=by
 have key: ∀x b:UInt8,NY x=some b->sF (f+1) (92::x::u) i out=sF f u (i+2) (out++[b]):=by
  intro x b hx
  have e:xV (92::x::u)=([b],2,0):=by
   unfold xV;simp only[zck,zce,hx]
  rw[sF];simp only[e];simp
 have key2:sF (f+1) (92::117::48::48::ni (c.toNat/16)::ni (c.toNat%16)::u) i out=sF f u (i+6) (out++[c]):=by
  rw[sF];simp only[ajX h];simp
 unfold iM
 by_cases h0:c=32
 .subst h0;rw[zac rfl];exact key2
 rw[zab h0];unfold jy
 by_cases h1:c=34
 .subst h1;exact key 34 34 rfl
 rw[zab h1]
 by_cases h2:c=92
 .subst h2;exact key 92 92 rfl
 rw[zab h2]
 by_cases h3:c=8
 .subst h3;exact key 98 8 rfl
 rw[zab h3]
 by_cases h4:c=12
 .subst h4;exact key 102 12 rfl
 rw[zab h4]
 by_cases h5:c=10
 .subst h5;exact key 110 10 rfl
 rw[zab h5]
 by_cases h6:c=13
 .subst h6;exact key 114 13 rfl
 rw[zab h6]
 by_cases h7:c=9
 .subst h7;exact key 116 9 rfl
 rw[zab h7]
 by_cases h8:c<32
 .rw[zac h8];exact key2
 rw[zab h8];show sF (f+1) (c::u) i out=_
 rw[sF];simp only[h1,h8,h2,if_false,aak h];simp
def aeC (h: ∀c∈l,128<=c.toNat):l.flatMap iM=l:=by
 induction l with
 | nil=>rfl
 | cons c l ih=>
  rw[zbh,XO (h c zao),ih λx hx=>h x (zat _ hx)];rfl
def ahD {s:L8} (hv:validD s=true): ∀(f i:Nat) (u out:L8),(s.flatMap iM++34::u).length<=f->sF f (s.flatMap iM++34::u) i out=(out++s,i+(s.flatMap iM).length+1,0):=by
 refine aeB (p:=λs=>∀(f i:Nat) (u out:L8),(s.flatMap iM++34::u).length<=f->sF f (s.flatMap iM++34::u) i out=(out++s,i+(s.flatMap iM).length+1,0)) ?_ ?_ ?_ hv
 .intro f i u out hf
  cases f with
  | zero=>simp at hf
  | succ f=>rw[zfm,zbu,sF];simp
 .intro c t hc _ ih f i u out hf
  have hq:1<=(iM c).length:=by
   unfold iM jy
   repeat' split
   all_goals simp
  rw[zbh,zbm]at hf ⊢;rw[zad]at hf;cases f with
  | zero=>omega
  | succ f=>
   rw[ahC hc,ih f _ u _ oM,zbm,zad];simp only[zcd,zbu,Prod.mk.injEq,and_true,true_and];omega
 intro l r n hn h1 _ ih f i u out hf;obtain⟨k1,_,k3,_,_⟩:=z8 hn;have hh:=aeA hn h1
 have e:l.flatMap iM=l.take n++(l.drop n).flatMap iM:=by
  conv=>lhs;rw[<-zbs n l]
  rw[zbt,aeC hh]
 rw[e,zbm]at hf ⊢;rw[zad,zah]at hf;cases f with
 | zero=>omega
 | succ f=>
  have ha:=ahz hn ((l.drop n).flatMap iM++34::u)
  obtain⟨c,t,ect⟩: ∃c t,l.take n++((l.drop n).flatMap iM++34::u)=c::t:=by
   cases h0:l.take n++((l.drop n).flatMap iM++34::u)with
   | nil=>simp at h0
   | cons c t=>exact⟨c,t,rfl⟩
  have hc:128<=c.toNat:=by
   refine hh c ?_;cases ht:l.take n with
   | nil=>rw[List.take_eq_nil_iff]at ht;rcases ht with rfl | rfl<;>simp at k1 k3;omega
   | cons a b=>rw[ht]at ect;injection ect with e1 _;rw[e1];exact zao
  have e2: ∀k:UInt8,k.toNat<128->c≠k:=λk hk e=>by subst e;omega
  have hd:(c::t).drop n=(l.drop n).flatMap iM++34::u:=by rw[<-ect,zej (by rw[zah];omega),List.drop_take,zen,zdf,zbu]
  have ht:(c::t).take n=l.take n:=by rw[<-ect,zei (by rw[zah];omega),List.take_take,Nat.min_self]
  rw[ect]at ha ⊢;rw[sF];dsimp only;rw[zab (e2 _ dC),zab (λh2=>by have:=UInt8.lt_iff_toNat_lt.1 h2;simp at this;omega),zab (e2 _ dC),ha];dsimp only;rw[hd,ht,ih f _ u _ oM,zbm,zbs,zad,zah];simp only[Prod.mk.injEq,and_true,true_and];omega
def ahE {s:L8} (hv:validD s=true):Uv (Rq s)=(s,(Rq s).length,0):=by
 rw[BQ];unfold Uv;dsimp only;rw[zab sM,ahD hv _ _ [] [] oM];simp;omega
end Go.Proofs.Mw
