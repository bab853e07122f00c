/-
 Slices inside of what is read,as rows. Nothing of a given program stands here.
-/
import Derived.Test.YtbkjpdboaclopaaGreatDoorNd5
import Derived.Test.YtbkjpdboaclopaaGreatDoorProg
import Derived.Lib.ValidLaws
import Derived.Lib.ItoaNum
import Derived.Lib.ParseIntBTie
import Derived.Lib.Bytealg
set_option linter.all false
namespace Go.Proofs.Mw
open Go.RowKit Go.ChangeShapes Go.WideShapes Go.Deep
section
variable {H:Type} {enc:Td×Value->H} {P:Program}
def uI {α:Type} {f:α->LV} {good:α->Prop} {s:Nat} {t e:Td} {W:Wd} {v:Value} {n0:Nat} {y:DataW H×List MemPlace} (ht:P.underlying t=some (.slice e)) (hC:P.cellsOf e=s) (hf: ∀x,(f x).length=s)
    (hel: ∀n cs y,cs.length=s->DataW.trod enc P W 0 (λ_=>true) true n e cs=some y->∃x,cs=f x/\good x) (h:DataW.trod enc P W 0 (λ_=>true) true n0 t [v]=some y):
    ∃A c,∃l:List α,v=.slice A l.length c/\l.length<=c/\c<=maxLen/\gZ W A l.length s (l.flatMap f)/\∀x∈l,good x:=by
  rcases open_slice ht h with⟨h0,_⟩ | ⟨a,len,cap,m,n,D,Pl,hcs,_,hl,hm,hmm,_,hi⟩
  . injection h0 with h0 _
    exact⟨none,0,[],h0,zbi _,zai _,gZ.nil _ _ _,λ_ h=>by cases h⟩
  injection hcs with hcs _
  have CU:m=cap:=by simpa using hmm
  subst CU
  obtain⟨l,h1,h2⟩:=Cn (α:=α) (Q:=λi x=>good x/\∀j u,(f x)[j]? =some u->W.cell? (a.add (i*s+j))=some u) len (λi hi'=>by
    obtain⟨cs',hc,ht'⟩:=hi i oM;rw[hC]at hc;obtain⟨_,VB,hat⟩:=World.cells?_some hc;obtain⟨x,hx,hg⟩:=hel _ _ _ VB ht';refine⟨x,hg,λj u hu=>?_⟩;have hj:j<s:=by rw[<-hf x];exact(zax.1 hu).1
    have Pm:=hat j hj;rw[<-Go.Deep.add_add,Pm,hx];exact hu)
  subst h1;refine⟨some a,m,l,hcs,hl,hm,⟨Cq hf l,λ_=>⟨a,rfl,λk u hk=>?_⟩⟩,λx hx=>?_⟩
  . obtain⟨i,j,x,hi',hj,rfl⟩:=Co hf l k u hk
    exact(h2 i x hi').2 j u hj
  obtain⟨i,hi'⟩:=List.mem_iff_getElem?.1 hx;exact(h2 i x hi').1
end
open Go.Proofs.Tryz Go.Lib
abbrev Oa:=@OneCell prog
abbrev Za:=@Zero prog
abbrev Ca:=@Cells prog
abbrev Ia:=@nk prog
abbrev Aa:=@Agg prog
abbrev Ib:=@dn prog
abbrev Ic:=@abS prog
abbrev Id:=@zM prog
abbrev Ba:=@ah0 prog
abbrev Fa:=@CX prog
instance:Oa 1:={}
instance:Za 1 (Value.nilFunc):={}
instance:Ca 1 1 8:={}
instance apf:Oa 2:={}
instance:Za 2 (Value.int .i64 0):={}
instance:Ca 2 1 8:={}
instance:Ia 2 .i64:={}
instance anh:Oa 3:={}
instance:Za 3 (Value.int .i64 0):={}
instance:Ca 3 1 8:={}
instance:Ia 3 .i64:={}
instance apg:Oa 4:={}
instance:Za 4 (Value.bool false):={}
instance:Ca 4 1 1:={}
instance:Zt prog 4:={}
instance:Oa 5:={}
instance:Za 5 (Value.int .u8 0):={}
instance:Ca 5 1 1:={}
instance:Ia 5 .u8:={}
instance:Oa 6:={}
instance:Za 6 (Value.int .u8 0):={}
instance:Ca 6 1 1:={}
instance:Ia 6 .u8:={}
instance:Aa 7 4:={}
instance:Za 7 (Value.agg #[Value.int .i64 0,Value.int .i64 0,Value.bool false,Value.int .u8 0]):={}
instance:Ca 7 4 24:={}
instance ani:Oa 9:={}
instance:Za 9 (Value.string .empty):={}
instance:Ca 9 1 16:={}
instance:lX prog 9:={}
instance:Oa 12:={}
instance:Za 12 (Value.int .u64 0):={}
instance:Ca 12 1 8:={}
instance:Ia 12 .u64:={}
instance:Oa 20:={}
instance:Za 20 (Value.nilIface):={}
instance:Ca 20 1 16:={}
instance:Oa 21:={}
instance:Za 21 (Value.int .i32 0):={}
instance:Ca 21 1 4:={}
instance:Ia 21 .i32:={}
instance:Oa 22:={}
instance:Za 22 (Value.slice none 0 0):={}
instance:Ca 22 1 24:={}
instance:Ib 22 49:={}
instance:Oa 23:={}
instance:Za 23 (Value.slice none 0 0):={}
instance:Ca 23 1 24:={}
instance:Ib 23 66:={}
instance:Oa 24:={}
instance:Za 24 (Value.slice none 0 0):={}
instance:Ca 24 1 24:={}
instance:Ib 24 68:={}
instance:Aa 26 3:={}
instance:Za 26 (Value.agg #[Value.slice none 0 0,Value.slice none 0 0,Value.int .i64 0]):={}
instance:Ca 26 3 56:={}
instance:Oa 27:={}
instance:Za 27 (Value.slice none 0 0):={}
instance:Ca 27 1 24:={}
instance:Ib 27 41:={}
instance:Oa 30:={}
instance:Za 30 (Value.pointer none):={}
instance:Ca 30 1 8:={}
instance:Ic 30:=⟨_,(by kernel_rfl:Program.underlying _ _=some (.pointer 92))⟩
instance:Oa 31:={}
instance:Za 31 (Value.int .i64 0):={}
instance:Ca 31 1 8:={}
instance:Ia 31 .i64:={}
instance:Oa 34:={}
instance:Za 34 (Value.pointer none):={}
instance:Ca 34 1 8:={}
instance:Ic 34:=⟨_,(by kernel_rfl:Program.underlying _ _=some (.pointer 43))⟩
instance:Oa 41:={}
instance:Za 41 (Value.slice none 0 0):={}
instance:Ca 41 1 24:={}
instance:Ib 41 60:={}
instance:Aa 43 6:={}
instance:Za 43 (Value.agg #[Value.slice none 0 0,Value.slice none 0 0,Value.slice none 0 0,Value.int .i64 0,Value.slice none 0 0,Value.slice none 0 0]):={}
instance:Ca 43 6 128:={}
instance aph:Aa 45 2:={}
instance:Za 45 (Value.agg #[Value.int .i64 0,Value.bool false]):={}
instance:Ca 45 2 16:={}
instance apj:Aa 47 3:={}
instance:Za 47 (Value.agg #[Value.bool false,Value.int .i64 0,Value.string .empty]):={}
instance:Ca 47 3 32:={}
instance:Aa 49 7:={}
instance:Za 49 (Value.agg #[Value.int .i64 0,Value.string .empty,Value.int .i64 0,Value.bool false,Value.bool false,Value.int .i64 0,Value.string .empty]):={}
instance:Ca 49 7 72:={}
instance:Oa 57:={}
instance:Za 57 (Value.slice none 0 0):={}
instance:Ca 57 1 24:={}
instance:Ib 57 9:={}
instance:Oa 58:={}
instance:Za 58 (Value.slice none 0 0):={}
instance:Ca 58 1 24:={}
instance:Ib 58 47:={}
instance:Aa 60 2:={}
instance:Za 60 (Value.agg #[Value.slice none 0 0,Value.int .i64 0]):={}
instance:Ca 60 2 32:={}
instance:Aa 66 3:={}
instance:Za 66 (Value.agg #[Value.int .i64 0,Value.int .i64 0,Value.string .empty]):={}
instance:Ca 66 3 32:={}
instance:Aa 68 2:={}
instance:Za 68 (Value.agg #[Value.string .empty,Value.slice none 0 0]):={}
instance:Ca 68 2 40:={}
instance:Oa 69:={}
instance:Za 69 (Value.slice none 0 0):={}
instance:Ca 69 1 24:={}
instance:Ib 69 26:={}
instance:Oa 73:={}
instance:Za 73 (Value.pointer none):={}
instance:Ca 73 1 8:={}
instance:Ic 73:=⟨_,(by kernel_rfl:Program.underlying _ _=some (.pointer 75))⟩
instance:Aa 75 1:={}
instance:Za 75 (Value.agg #[Value.slice none 0 0]):={}
instance:Ca 75 1 24:={}
instance:Oa 77:={}
instance:Za 77 (Value.nilIface):={}
instance:Ca 77 1 16:={}
instance:Oa 81:={}
instance:Za 81 (Value.int .u32 0):={}
instance:Ca 81 1 4:={}
instance:Ia 81 .u32:={}
instance:Aa 83 1:={}
instance:Za 83 (Value.agg #[Value.int .u32 0]):={}
instance:Ca 83 1 4:={}
instance:Aa 85 2:={}
instance:Za 85 (Value.agg #[Value.int .i32 0,Value.int .u32 0]):={}
instance:Ca 85 2 8:={}
instance:Aa 87 2:={}
instance:Za 87 (Value.agg #[Value.int .i32 0,Value.int .u32 0]):={}
instance:Ca 87 2 8:={}
instance:Aa 89 3:={}
instance:Za 89 (Value.agg #[Value.int .u32 0,Value.int .i32 0,Value.int .u32 0]):={}
instance:Ca 89 3 12:={}
instance:Oa 90:={}
instance:Za 90 (Value.nilFunc):={}
instance:Ca 90 1 8:={}
instance:Aa 92 10:={}
instance:Za 92 (Value.agg #[Value.slice none 0 0,Value.slice none 0 0,Value.slice none 0 0,Value.int .i64 0,Value.slice none 0 0,Value.nilIface,Value.int .u32 0,Value.int .i32 0,Value.int .u32 0,Value.nilFunc]):={}
instance:Ca 92 10 144:={}
instance:Oa 93:={}
instance:Za 93 (Value.pointer none):={}
instance:Ca 93 1 8:={}
instance:Ic 93:=⟨_,(by kernel_rfl:Program.underlying _ _=some (.pointer 129))⟩
instance:Oa 96:={}
instance:Za 96 (Value.pointer none):={}
instance:Ca 96 1 8:={}
instance:Ic 96:=⟨_,(by kernel_rfl:Program.underlying _ _=some (.pointer 98))⟩
instance:Aa 98 2:={}
instance:Za 98 (Value.agg #[Value.pointer none,Value.int .i64 0]):={}
instance:Ca 98 2 16:={}
instance:Oa 99:={}
instance:Za 99 (Value.nilFunc):={}
instance:Ca 99 1 8:={}
instance:Oa 100:={}
instance:Za 100 (Value.nilFunc):={}
instance:Ca 100 1 8:={}
instance:Aa 109 4:={}
instance:Za 109 (Value.agg #[Value.slice none 0 0,Value.slice none 0 0,Value.int .i64 0,Value.int .i64 0]):={}
instance:Ca 109 4 64:={}
instance:Oa 110:={}
instance:Za 110 (Value.nilFunc):={}
instance:Ca 110 1 8:={}
instance:Oa 111:={}
instance:Za 111 (Value.nilFunc):={}
instance:Ca 111 1 8:={}
instance:Oa 115:={}
instance:Za 115 (Value.nilFunc):={}
instance:Ca 115 1 8:={}
instance:Oa 119:={}
instance:Za 119 (Value.slice none 0 0):={}
instance:Ca 119 1 24:={}
instance:Ib 119 3:={}
instance:Oa 126:={}
instance:Za 126 (Value.nilFunc):={}
instance:Ca 126 1 8:={}
instance:Oa 127:={}
instance:Za 127 (Value.map none):={}
instance:Ca 127 1 8:={}
instance:IsMap prog 127 9 437:={}
instance:Aa 129 4:={}
instance:Za 129 (Value.agg #[Value.bool false,Value.int .i64 0,Value.int .i64 0,Value.map none]):={}
instance:Ca 129 4 32:={}
instance:Oa 131:={}
instance:Za 131 (Value.pointer none):={}
instance:Ca 131 1 8:={}
instance:Ic 131:=⟨_,(by kernel_rfl:Program.underlying _ _=some (.pointer 89))⟩
instance:Oa 132:={}
instance:Za 132 (Value.nilFunc):={}
instance:Ca 132 1 8:={}
instance:Oa 135:={}
instance:Za 135 (Value.nilFunc):={}
instance:Ca 135 1 8:={}
instance:Oa 136:={}
instance:Za 136 (Value.slice none 0 0):={}
instance:Ca 136 1 24:={}
instance:Ib 136 132:={}
instance:Oa 138:={}
instance:Za 138 (Value.pointer none):={}
instance:Ca 138 1 8:={}
instance:Ic 138:=⟨_,(by kernel_rfl:Program.underlying _ _=some (.pointer 201))⟩
instance:Oa 141:={}
instance:Za 141 (Value.slice none 0 0):={}
instance:Ca 141 1 24:={}
instance:Ib 141 143:={}
instance:Aa 143 3:={}
instance:Za 143 (Value.agg #[Value.slice none 0 0,Value.slice none 0 0,Value.int .i64 0]):={}
instance:Ca 143 3 56:={}
instance:Oa 150:={}
instance:Za 150 (Value.pointer none):={}
instance:Ca 150 1 8:={}
instance:Ic 150:=⟨_,(by kernel_rfl:Program.underlying _ _=some (.pointer 109))⟩
instance:Oa 156:={}
instance:Za 156 (Value.nilIface):={}
instance:Ca 156 1 16:={}
instance:Oa 163:={}
instance:Za 163 (Value.nilFunc):={}
instance:Ca 163 1 8:={}
instance:Oa 165:={}
instance:Za 165 (Value.slice none 0 0):={}
instance:Ca 165 1 24:={}
instance:Ib 165 60:={}
instance:Oa 166:={}
instance:Za 166 (Value.nilFunc):={}
instance:Ca 166 1 8:={}
instance:Oa 170:={}
instance:Za 170 (Value.map none):={}
instance:Ca 170 1 8:={}
instance:IsMap prog 170 9 3:={}
instance:Oa 171:={}
instance:Za 171 (Value.slice none 0 0):={}
instance:Ca 171 1 24:={}
instance:Ib 171 45:={}
instance:Aa 173 1:={}
instance:Za 173 (Value.agg #[Value.slice none 0 0]):={}
instance:Ca 173 1 24:={}
instance:Oa 182:={}
instance:Za 182 (Value.nilFunc):={}
instance:Ca 182 1 8:={}
instance:Oa 184:={}
instance:Za 184 (Value.pointer none):={}
instance:Ca 184 1 8:={}
instance:Ic 184:=⟨_,(by kernel_rfl:Program.underlying _ _=some (.pointer 83))⟩
instance:Oa 186:={}
instance:Za 186 (Value.pointer none):={}
instance:Ca 186 1 8:={}
instance:Ic 186:=⟨_,(by kernel_rfl:Program.underlying _ _=some (.pointer 81))⟩
instance:Aa 189 1:={}
instance:Za 189 (Value.agg #[Value.slice none 0 0]):={}
instance:Ca 189 1 24:={}
instance:Oa 198:={}
instance:Za 198 (Value.nilFunc):={}
instance:Ca 198 1 8:={}
instance:Oa 199:={}
instance:Za 199 (Value.slice none 0 0):={}
instance:Ca 199 1 24:={}
instance:Ib 199 206:={}
instance:Aa 201 3:={}
instance:Za 201 (Value.agg #[Value.int .i64 0,Value.int .i64 0,Value.slice none 0 0]):={}
instance:Ca 201 3 40:={}
instance:Oa 204:={}
instance:Za 204 (Value.slice none 0 0):={}
instance:Ca 204 1 24:={}
instance:Ib 204 2:={}
instance:Aa 206 3:={}
instance:Za 206 (Value.agg #[Value.slice none 0 0,Value.int .i64 0,Value.slice none 0 0]):={}
instance:Ca 206 3 56:={}
instance:Oa 210:={}
instance:Za 210 (Value.slice none 0 0):={}
instance:Ca 210 1 24:={}
instance:Ib 210 211:={}
instance:Aa 211 2:={}
instance:Za 211 (Value.agg #[Value.int .i64 0,Value.int .i64 0]):={}
instance:Ca 211 2 16:={}
instance:Id 211 2 2:={}
instance:Oa 220:={}
instance:Za 220 (Value.nilFunc):={}
instance:Ca 220 1 8:={}
instance:Oa 222:={}
instance:Za 222 (Value.pointer none):={}
instance:Ca 222 1 8:={}
instance:Ic 222:=⟨_,(by kernel_rfl:Program.underlying _ _=some (.pointer 225))⟩
instance:Oa 223:={}
instance:Za 223 (Value.slice none 0 0):={}
instance:Ca 223 1 24:={}
instance:Ib 223 5:={}
instance:Aa 225 2:={}
instance:Za 225 (Value.agg #[Value.pointer none,Value.slice none 0 0]):={}
instance:Ca 225 2 32:={}
instance aa5:Oa 229:={}
instance:Za 229 (Value.int .u64 0):={}
instance:Ca 229 1 8:={}
instance:Ia 229 .u64:={}
instance:Aa 231 3:={}
instance:Za 231 (Value.agg #[Value.int .u64 0,Value.int .u64 0,Value.int .u64 0]):={}
instance:Ca 231 3 24:={}
instance:Oa 235:={}
instance:Za 235 (Value.nilFunc):={}
instance:Ca 235 1 8:={}
instance:Oa 240:={}
instance:Za 240 (Value.int .u64 0):={}
instance:Ca 240 1 8:={}
instance:Ia 240 .u64:={}
instance:Oa 241:={}
instance:Za 241 (Value.pointer none):={}
instance:Ca 241 1 8:={}
instance:Ic 241:=⟨_,(by kernel_rfl:Program.underlying _ _=some (.pointer 173))⟩
instance:Aa 242 6:={}
instance:Za 242 (Value.agg #[Value.int .i64 0,Value.int .i64 0,Value.int .i64 0,Value.int .i64 0,Value.int .i64 0,Value.int .i64 0]):={}
instance:Ca 242 6 48:={}
instance:Id 242 6 3:={}
instance:Oa 245:={}
instance:Za 245 (Value.nilFunc):={}
instance:Ca 245 1 8:={}
instance:Oa 246:={}
instance:Za 246 (Value.pointer none):={}
instance:Ca 246 1 8:={}
instance:Ic 246:=⟨_,(by kernel_rfl:Program.underlying _ _=some (.pointer 87))⟩
instance:Oa 249:={}
instance:Za 249 (Value.pointer none):={}
instance:Ca 249 1 8:={}
instance:Ic 249:=⟨_,(by kernel_rfl:Program.underlying _ _=some (.pointer 189))⟩
instance:Oa 255:={}
instance:Za 255 (Value.nilFunc):={}
instance:Ca 255 1 8:={}
instance:Oa 256:={}
instance:Za 256 (Value.nilFunc):={}
instance:Ca 256 1 8:={}
instance:Oa 257:={}
instance:Za 257 (Value.nilFunc):={}
instance:Ca 257 1 8:={}
instance:Oa 258:={}
instance:Za 258 (Value.nilFunc):={}
instance:Ca 258 1 8:={}
instance:Aa 261 5:={}
instance:Za 261 (Value.agg #[Value.nilFunc,Value.nilFunc,Value.nilFunc,Value.nilFunc,Value.nilFunc]):={}
instance:Ca 261 5 40:={}
instance:Aa 265 6:={}
instance:Za 265 (Value.agg #[Value.int .u64 0,Value.int .u64 0,Value.int .u64 0,Value.int .u64 0,Value.int .u64 0,Value.int .u64 0]):={}
instance:Ca 265 6 48:={}
instance:Id 265 6 229:={}
instance:Oa 272:={}
instance:Za 272 (Value.int .i64 0):={}
instance:Ca 272 1 8:={}
instance:Ia 272 .i64:={}
instance:Oa 275:={}
instance:Za 275 (Value.pointer none):={}
instance:Ca 275 1 8:={}
instance:Ic 275:=⟨_,(by kernel_rfl:Program.underlying _ _=some (.pointer 339))⟩
instance:Aa 281 256:={}
instance:Za 281 (Value.agg (List.replicate 256 (Value.bool false)).toArray):={}
instance:Ca 281 256 256:={}
instance:Id 281 256 4:={}
instance:Oa 285:={}
instance:Za 285 (Value.pointer none):={}
instance:Ca 285 1 8:={}
instance:Ic 285:=⟨_,(by kernel_rfl:Program.underlying _ _=some (.pointer 281))⟩
instance:Oa 292:={}
instance:Za 292 (Value.pointer none):={}
instance:Ca 292 1 8:={}
instance:Ic 292:=⟨_,(by kernel_rfl:Program.underlying _ _=some (.pointer 5))⟩
instance:Oa 297:={}
instance:Za 297 (Value.int .i64 0):={}
instance:Ca 297 1 8:={}
instance:Ia 297 .i64:={}
instance:Oa 311:={}
instance:Za 311 (Value.pointer none):={}
instance:Ca 311 1 8:={}
instance:Ic 311:=⟨_,(by kernel_rfl:Program.underlying _ _=some (.pointer 85))⟩
instance:Oa 313:={}
instance:Za 313 (Value.pointer none):={}
instance:Ca 313 1 8:={}
instance:Ic 313:=⟨_,(by kernel_rfl:Program.underlying _ _=some (.pointer 21))⟩
instance:Oa 315:={}
instance:Za 315 (Value.pointer none):={}
instance:Ca 315 1 8:={}
instance:Oa 322:={}
instance:Za 322 (Value.nilFunc):={}
instance:Ca 322 1 8:={}
instance:Aa 323 30:={}
instance:Za 323 (Value.agg (List.replicate 30 (Value.nilFunc)).toArray):={}
instance:Ca 323 30 240:={}
instance:Id 323 6 261:={}
instance:Aa 339 3:={}
instance:Za 339 (Value.agg #[Value.string .empty,Value.string .empty,Value.nilIface]):={}
instance:Ca 339 3 48:={}
instance:Aa 341 24:={}
instance:Za 341 (Value.agg (List.replicate 24 (Value.int .u8 0)).toArray):={}
instance:Ca 341 24 24:={}
instance:Id 341 24 5:={}
instance:Oa 351:={}
instance:Za 351 (Value.map none):={}
instance:Ca 351 1 8:={}
instance:IsMap prog 351 21 5:={}
instance:Oa 359:={}
instance:Za 359 (Value.slice none 0 0):={}
instance:Ca 359 1 24:={}
instance:Ib 359 231:={}
instance:Oa 363:={}
instance:Za 363 (Value.int .u64 0):={}
instance:Ca 363 1 8:={}
instance:Ia 363 .u64:={}
instance:Oa 367:={}
instance:Za 367 (Value.pointer none):={}
instance:Ca 367 1 8:={}
instance:Ic 367:=⟨_,(by kernel_rfl:Program.underlying _ _=some (.pointer 3))⟩
instance:Oa 375:={}
instance:Za 375 (Value.nilFunc):={}
instance:Ca 375 1 8:={}
instance:Aa 376 8:={}
instance:Za 376 (Value.agg (List.replicate 8 (Value.int .u8 0)).toArray):={}
instance:Ca 376 8 8:={}
instance:Id 376 8 5:={}
instance:Oa 380:={}
instance:Za 380 (Value.pointer none):={}
instance:Ca 380 1 8:={}
instance:Ic 380:=⟨_,(by kernel_rfl:Program.underlying _ _=some (.pointer 382))⟩
instance:Aa 382 3:={}
instance:Za 382 (Value.agg #[Value.string .empty,Value.int .i64 0,Value.int .i64 0]):={}
instance:Ca 382 3 32:={}
instance:Oa 386:={}
instance:Za 386 (Value.pointer none):={}
instance:Ca 386 1 8:={}
instance:Ic 386:=⟨_,(by kernel_rfl:Program.underlying _ _=some (.pointer 388))⟩
instance:Aa 388 1:={}
instance:Za 388 (Value.agg #[Value.string .empty]):={}
instance:Ca 388 1 16:={}
instance:Aa 390 20:={}
instance:Za 390 (Value.agg (List.replicate 20 (Value.int .u64 0)).toArray):={}
instance:Ca 390 20 160:={}
instance:Id 390 20 229:={}
instance:Aa 391 65:={}
instance:Za 391 (Value.agg (List.replicate 65 (Value.int .u8 0)).toArray):={}
instance:Ca 391 65 65:={}
instance:Id 391 65 5:={}
instance:Oa 399:={}
instance:Za 399 (Value.pointer none):={}
instance:Ca 399 1 8:={}
instance:Ic 399:=⟨_,(by kernel_rfl:Program.underlying _ _=some (.pointer 363))⟩
instance:Aa 403 256:={}
instance:Za 403 (Value.agg (List.replicate 256 (Value.int .u8 0)).toArray):={}
instance:Ca 403 256 256:={}
instance:Id 403 256 5:={}
instance:Aa 405 2:={}
instance:Za 405 (Value.agg #[Value.int .u8 0,Value.int .u8 0]):={}
instance:Ca 405 2 2:={}
instance:Aa 406 32:={}
instance:Za 406 (Value.agg (List.replicate 32 (Value.int .u8 0)).toArray):={}
instance:Ca 406 32 32:={}
instance:Id 406 16 405:={}
instance:Aa 411 32:={}
instance:Za 411 (Value.agg (List.replicate 32 (Value.int .u8 0)).toArray):={}
instance:Ca 411 32 32:={}
instance:Id 411 32 5:={}
instance:Aa 412 64:={}
instance:Za 412 (Value.agg (List.replicate 64 (Value.int .u8 0)).toArray):={}
instance:Ca 412 64 64:={}
instance:Id 412 64 5:={}
instance:Oa 426:={}
instance:Za 426 (Value.slice none 0 0):={}
instance:Ca 426 1 24:={}
instance:Ib 426 427:={}
instance:Aa 427 3:={}
instance:Za 427 (Value.agg #[Value.slice none 0 0,Value.slice none 0 0,Value.int .i64 0]):={}
instance:Ca 427 3 56:={}
instance:Oa 430:={}
instance:Za 430 (Value.nilFunc):={}
instance:Ca 430 1 8:={}
instance:Oa 431:={}
instance:Za 431 (Value.map none):={}
instance:Ca 431 1 8:={}
instance:IsMap prog 431 9 433:={}
instance:Oa 433:={}
instance:Za 433 (Value.pointer none):={}
instance:Ca 433 1 8:={}
instance:Ic 433:=⟨_,(by kernel_rfl:Program.underlying _ _=some (.pointer 435))⟩
instance:Aa 435 2:={}
instance:Za 435 (Value.agg #[Value.slice none 0 0,Value.slice none 0 0]):={}
instance:Ca 435 2 48:={}
instance:Aa 437 2:={}
instance:Za 437 (Value.agg #[Value.slice none 0 0,Value.slice none 0 0]):={}
instance:Ca 437 2 48:={}
instance:Oa 440:={}
instance:Za 440 (Value.nilFunc):={}
instance:Ca 440 1 8:={}
instance:Oa 441:={}
instance:Za 441 (Value.nilFunc):={}
instance:Ca 441 1 8:={}
instance:Oa 446:={}
instance:Za 446 (Value.nilFunc):={}
instance:Ca 446 1 8:={}
instance:Oa 449:={}
instance:Za 449 (Value.nilFunc):={}
instance:Ca 449 1 8:={}
instance:Ba 26 ((Value.slice none 0 0)::(Value.slice none 0 0)::(Value.int .i64 0)::[]) [(0,1),(1,1),(2,1)]:=⟨λ_=>kR,_,underlying26,λ_=>kR⟩
instance:Ba 43 ((Value.slice none 0 0)::(Value.slice none 0 0)::(Value.slice none 0 0)::(Value.int .i64 0)::(Value.slice none 0 0)::(Value.slice none 0 0)::[]) [(0,1),(1,3),(4,1),(5,1)]:=⟨λ_=>kR,_,underlying43,λ_=>kR⟩
instance:Ba 45 ((Value.int .i64 0)::(Value.bool false)::[]) [(0,1),(1,1)]:=⟨λ_=>kR,_,underlying45,λ_=>kR⟩
instance:Ba 47 ((Value.bool false)::(Value.int .i64 0)::(Value.string .empty)::[]) [(0,1),(1,1),(2,1)]:=⟨λ_=>kR,_,underlying47,λ_=>kR⟩
instance:Ba 49 ((Value.int .i64 0)::(Value.string .empty)::(Value.int .i64 0)::(Value.bool false)::(Value.bool false)::(Value.int .i64 0)::(Value.string .empty)::[]) [(0,1),(1,1),(2,2),(4,3)]:=⟨λ_=>kR,_,underlying49,λ_=>kR⟩
instance:Ba 60 ((Value.slice none 0 0)::(Value.int .i64 0)::[]) [(0,1),(1,1)]:=⟨λ_=>kR,_,underlying60,λ_=>kR⟩
instance:Ba 66 ((Value.int .i64 0)::(Value.int .i64 0)::(Value.string .empty)::[]) [(0,1),(1,1),(2,1)]:=⟨λ_=>kR,_,underlying66,λ_=>kR⟩
instance:Ba 68 ((Value.string .empty)::(Value.slice none 0 0)::[]) [(0,1),(1,1)]:=⟨λ_=>kR,_,underlying68,λ_=>kR⟩
instance:Ba 75 ((Value.slice none 0 0)::[]) [(0,1)]:=⟨λ_=>kR,_,underlying75,λ_=>kR⟩
instance:Ba 92 ((Value.slice none 0 0)::(Value.slice none 0 0)::(Value.slice none 0 0)::(Value.int .i64 0)::(Value.slice none 0 0)::(Value.nilIface)::(Value.int .u32 0)::(Value.int .i32 0)::(Value.int .u32 0)::(Value.nilFunc)::[]) [(0,1),(1,3),(4,1),(5,1),(6,3),(9,1)]:=⟨λ_=>kR,_,underlying92,λ_=>kR⟩
instance:Ba 98 ((Value.pointer none)::(Value.int .i64 0)::[]) [(0,1),(1,1)]:=⟨λ_=>kR,_,underlying98,λ_=>kR⟩
instance:Ba 129 ((Value.bool false)::(Value.int .i64 0)::(Value.int .i64 0)::(Value.map none)::[]) [(0,1),(1,1),(2,1),(3,1)]:=⟨λ_=>kR,_,underlying129,λ_=>kR⟩
instance:Ba 143 ((Value.slice none 0 0)::(Value.slice none 0 0)::(Value.int .i64 0)::[]) [(0,1),(1,1),(2,1)]:=⟨λ_=>kR,_,underlying143,λ_=>kR⟩
instance:Ba 201 ((Value.int .i64 0)::(Value.int .i64 0)::(Value.slice none 0 0)::[]) [(0,1),(1,1),(2,1)]:=⟨λ_=>kR,_,underlying201,λ_=>kR⟩
instance:Ba 206 ((Value.slice none 0 0)::(Value.int .i64 0)::(Value.slice none 0 0)::[]) [(0,1),(1,1),(2,1)]:=⟨λ_=>kR,_,underlying206,λ_=>kR⟩
instance:Ba 231 ((Value.int .u64 0)::(Value.int .u64 0)::(Value.int .u64 0)::[]) [(0,1),(1,1),(2,1)]:=⟨λ_=>kR,_,underlying231,λ_=>kR⟩
instance:Ba 261 ((Value.nilFunc)::(Value.nilFunc)::(Value.nilFunc)::(Value.nilFunc)::(Value.nilFunc)::[]) [(0,1),(1,1),(2,1),(3,1),(4,1)]:=⟨λ_=>kR,_,underlying261,λ_=>kR⟩
instance:Ba 339 ((Value.string .empty)::(Value.string .empty)::(Value.nilIface)::[]) [(0,1),(1,1),(2,1)]:=⟨λ_=>kR,_,underlying339,λ_=>kR⟩
instance:Ba 382 ((Value.string .empty)::(Value.int .i64 0)::(Value.int .i64 0)::[]) [(0,1),(1,1),(2,1)]:=⟨λ_=>kR,_,underlying382,λ_=>kR⟩
instance:Ba 388 ((Value.string .empty)::[]) [(0,1)]:=⟨λ_=>kR,_,underlying388,λ_=>kR⟩
instance:Ba 405 ((Value.int .u8 0)::(Value.int .u8 0)::[]) [(0,1),(1,1)]:=⟨λ_=>kR,_,underlying405,λ_=>kR⟩
instance:Ba 427 ((Value.slice none 0 0)::(Value.slice none 0 0)::(Value.int .i64 0)::[]) [(0,1),(1,1),(2,1)]:=⟨λ_=>kR,_,underlying427,λ_=>kR⟩
instance:Ba 435 ((Value.slice none 0 0)::(Value.slice none 0 0)::[]) [(0,1),(1,1)]:=⟨λ_=>kR,_,underlying435,λ_=>kR⟩
instance:Ba 437 ((Value.slice none 0 0)::(Value.slice none 0 0)::[]) [(0,1),(1,1)]:=⟨λ_=>kR,_,underlying437,λ_=>kR⟩
instance:Fa 26 0 0:={}
instance:Fa 26 1 1:={}
instance:Fa 26 2 2:={}
instance:Fa 43 0 0:={}
instance:Fa 43 1 1:={}
instance:Fa 43 2 4:={}
instance:Fa 43 3 5:={}
instance:Fa 45 0 0:={}
instance:Fa 45 1 1:={}
instance:Fa 47 0 0:={}
instance:Fa 47 1 1:={}
instance:Fa 47 2 2:={}
instance:Fa 49 0 0:={}
instance:Fa 49 2 2:={}
instance:Fa 60 0 0:={}
instance:Fa 60 1 1:={}
instance:Fa 66 0 0:={}
instance:Fa 66 1 1:={}
instance:Fa 66 2 2:={}
instance:Fa 68 0 0:={}
instance:Fa 68 1 1:={}
instance:Fa 75 0 0:={}
instance:Fa 83 1 0:={}
instance:Fa 85 0 0:={}
instance:Fa 85 1 1:={}
instance:Fa 87 1 0:={}
instance:Fa 89 1 0:={}
instance:Fa 89 2 1:={}
instance:Fa 92 0 0:={}
instance:Fa 92 1 1:={}
instance:Fa 92 2 4:={}
instance:Fa 92 3 5:={}
instance:Fa 92 4 6:={}
instance:Fa 92 5 9:={}
instance:Fa 98 0 0:={}
instance:Fa 98 1 1:={}
instance:Fa 109 0 0:={}
instance:Fa 109 1 3:={}
instance:Fa 129 0 0:={}
instance:Fa 129 1 1:={}
instance:Fa 129 2 2:={}
instance:Fa 129 3 3:={}
instance:Fa 143 0 0:={}
instance:Fa 143 1 1:={}
instance:Fa 143 2 2:={}
instance:Fa 173 0 0:={}
instance:Fa 189 0 0:={}
instance:Fa 201 0 0:={}
instance:Fa 201 1 1:={}
instance:Fa 201 2 2:={}
instance:Fa 206 0 0:={}
instance:Fa 206 1 1:={}
instance:Fa 206 2 2:={}
instance:Fa 225 0 0:={}
instance:Fa 225 1 1:={}
instance:Fa 231 0 0:={}
instance:Fa 231 1 1:={}
instance:Fa 231 2 2:={}
instance:Fa 382 0 0:={}
instance:Fa 382 1 1:={}
instance:Fa 382 2 2:={}
instance:Fa 405 0 0:={}
instance:Fa 405 1 1:={}
instance:Fa 427 0 0:={}
instance:Fa 427 1 1:={}
instance:Fa 427 2 2:={}
instance:Fa 435 0 0:={}
instance:Fa 435 1 1:={}
instance:Fa 437 0 0:={}
instance:Fa 437 1 1:={}
instance:Dx prog 261 0 0 256:=⟨_,underlying261,rfl⟩
instance:Dx prog 261 1 1 257:=⟨_,underlying261,rfl⟩
instance:Dx prog 261 2 2 258:=⟨_,underlying261,rfl⟩
instance:Dx prog 437 1 1 204:=⟨_,underlying437,rfl⟩
def iq (l:L8):Option (Nat×Nat):=if l=[]\/((decodeL l).1=65533/\(decodeL l).2=1)then none else some (decodeL l)
def Kc (r:Int):Option (L8):=if r<0\/1114111<r\/(55296<=r/\r<=57343)then none else some (encodeRune r)
def yD:L8->Nat
 | [a]=>a.toNat
 | [a,b]=>64*(a.toNat%32)+b.toNat%64
 | [a,b,c]=>64*(64*(a.toNat%16)+b.toNat%64)+c.toNat%64
 | [a,b,c,d]=>64*(64*(64*(a.toNat%8)+b.toNat%64)+c.toNat%64)+d.toNat%64
 | _=>0
def okL (l:L8) (k:Nat):Prop:=Kc (yD (l.take k):Nat)=some (l.take k)
instance (l:L8) (k:Nat):Decidable (okL l k):=by unfold okL;infer_instance

variable {n:Nat}
def acU {a:UInt8}:n.toUInt8=a↔n%256=a.toNat:=by
 rw[<-UInt8.toNat_inj];simp
variable {a b c d:UInt8} {t:L8}
def ok1:okL (a::t) 1↔a.toNat<128:=by
 have ha:=a.toNat_lt;unfold okL;simp only[zdb,zdh,yD];unfold Kc;rw[zaa oM];constructor
 .intro h
  refine Classical.byContradiction λhn=>?_;rw[encodeRune,encodeRuneZ_two oM oM]at h;simp at h
 intro h;rw[encodeRune,encodeRuneZ_one oM oM];simp
def ok2:okL (a::b::t) 2↔a.toNat/32=6/\b.toNat/64=2/\128<=a.toNat%32*64+b.toNat%64:=by
 have ha:=a.toNat_lt;have hb:=b.toNat_lt;unfold okL;simp only[zdb,zdh,yD];unfold Kc;rw[zaa oM]
 by_cases h0:64*(a.toNat%32)+b.toNat%64<128
 .rw[encodeRune,encodeRuneZ_one oM oM]
  simp;omega
 rw[encodeRune,encodeRuneZ_two oM oM];simp only[zav,zci,Option.some.injEq,List.cons.injEq,and_true,acU];omega
def ok3:okL (a::b::c::t) 3↔a.toNat/16=14/\b.toNat/64=2/\c.toNat/64=2/\2048<=a.toNat%16*4096+b.toNat%64*64+c.toNat%64/\
    (a.toNat%16*4096+b.toNat%64*64+c.toNat%64<55296\/57344<=a.toNat%16*4096+b.toNat%64*64+c.toNat%64):=by
  have ha:=a.toNat_lt;have hb:=b.toNat_lt;have hc:=c.toNat_lt;unfold okL;simp only[zdb,zdh,yD];unfold Kc
  by_cases hs:55296<=64*(64*(a.toNat%16)+b.toNat%64)+c.toNat%64/\64*(64*(a.toNat%16)+b.toNat%64)+c.toNat%64<=57343
  . rw[zac oM]
    simp;omega
  rw[zaa oM]
  by_cases h0:64*(64*(a.toNat%16)+b.toNat%64)+c.toNat%64<128
  . rw[encodeRune,encodeRuneZ_one oM oM]
    simp;omega
  by_cases h1:64*(64*(a.toNat%16)+b.toNat%64)+c.toNat%64<2048
  . rw[encodeRune,encodeRuneZ_two oM oM]
    simp;omega
  rw[encodeRune,encodeRuneZ_three oM];simp only[zav,zci,Option.some.injEq,List.cons.injEq,and_true,acU];omega
def ok4:okL (a::b::c::d::t) 4↔a.toNat/8=30/\b.toNat/64=2/\c.toNat/64=2/\d.toNat/64=2/\65536<=a.toNat%8*262144+b.toNat%64*4096+c.toNat%64*64+d.toNat%64/\
    a.toNat%8*262144+b.toNat%64*4096+c.toNat%64*64+d.toNat%64<=1114111:=by
  have ha:=a.toNat_lt;have hb:=b.toNat_lt;have hc:=c.toNat_lt;have hd:=d.toNat_lt;unfold okL;simp only[zdb,zdh,yD];unfold Kc;obtain⟨n,hn⟩: ∃n,n=64*(64*(64*(a.toNat%8)+b.toNat%64)+c.toNat%64)+d.toNat%64:=⟨_,rfl⟩;rw[<-hn]
  by_cases hs:1114111<n\/(55296<=n/\n<=57343)
  . rw[zac oM]
    simp;omega
  rw[zaa oM]
  by_cases h0:n<128
  . rw[encodeRune,encodeRuneZ_one oM oM]
    simp;omega
  by_cases h1:n<2048
  . rw[encodeRune,encodeRuneZ_two oM oM]
    simp;omega
  by_cases h2:n<65536
  . rw[encodeRune,encodeRuneZ_three oM]
    simp;omega
  rw[encodeRune,encodeRuneZ_four oM oM];simp only[zav,zci,Option.some.injEq,List.cons.injEq,and_true,acU];omega
def qR (a:UInt8) (t:L8):decodeL (a::t)=decodeN (t.length+1) a.toNat (t.getD 0 0).toNat (t.getD 1 0).toNat (t.getD 2 0).toNat:=by
 rw[decodeL_N];rfl
def AL {l:L8} {k:Nat} (h1:1<=k) (h4:k<=4) (hk:k<=l.length) (h:okL l k):iq l=some (yD (l.take k),k):=by
 have Pe:k=1\/k=2\/k=3\/k=4:=oM;unfold iq
 rcases Pe with rfl | rfl | rfl | rfl
 .obtain⟨a,t,rfl⟩: ∃a t,l=a::t:=by cases l with | nil=>simp at hk | cons a t=>exact⟨a,t,rfl⟩
  have h:=ok1.1 h;have hd:decodeL (a::t)=(a.toNat,1):=by rw[qR,decodeN,zac h]
  rw[hd,zaa (by simp;omega)];rfl
 .obtain⟨a,b,t,rfl⟩: ∃a b t,l=a::b::t:=by match l,hk with | a::b::t,_=>exact⟨a,b,t,rfl⟩
  obtain⟨h2,h3,h5⟩:=ok2.1 h
  have hd:decodeL (a::b::t)=(a.toNat%32*64+b.toNat%64,2):=by
   rw[qR,decodeN,zaa oM,zac ⟨h2,sM,by simpa using h3⟩];simp only[zfg];rw[zac h5]
  rw[hd,zaa sM];simp only[zdb,zdh,yD]
  congr 2;omega
 .obtain⟨a,b,c,t,rfl⟩: ∃a b c t,l=a::b::c::t:=by match l,hk with | a::b::c::t,_=>exact⟨a,b,c,t,rfl⟩
  obtain⟨h2,h3,h5,h6,h7⟩:=ok3.1 h
  have hd:decodeL (a::b::c::t)=(a.toNat%16*4096+b.toNat%64*64+c.toNat%64,3):=by
   rw[qR,decodeN,zaa oM,zaa oM,zac ⟨h2,⟨sM,by simpa using h3⟩,sM,by simpa using h5⟩];simp only[zfg,zga];rw[zac ⟨h6,oM⟩]
  rw[hd,zaa sM];simp only[zdb,zdh,yD]
  congr 2;omega
 obtain⟨a,b,c,d,t,rfl⟩: ∃a b c d t,l=a::b::c::d::t:=by match l,hk with | a::b::c::d::t,_=>exact⟨a,b,c,d,t,rfl⟩
 obtain⟨h2,h3,h5,h6,h7,h8⟩:=ok4.1 h
 have hd:decodeL (a::b::c::d::t)=(a.toNat%8*262144+b.toNat%64*4096+c.toNat%64*64+d.toNat%64,4):=by
  rw[qR,decodeN,zaa oM,zaa oM,zaa oM,zac ⟨h2,⟨sM,by simpa using h3⟩,⟨sM,by simpa using h5⟩,sM,by simpa using h6⟩];simp only[zfg,zga];rw[zac ⟨h7,oM⟩]
 rw[hd,zaa sM];simp only[zdb,zdh,yD]
 congr 2;omega
variable {l:L8}
def Ke (h: ∀k,1<=k->k<=4->k<=l.length->¬okL l k):iq l=none:=by
  unfold iq
  match l,h with
  | [],_=>rw[zac (.inl rfl)]
  | a::t,h=>
    rw[qR]
    rcases decodeN_shape (t.length+1) a.toNat (t.getD 0 0).toNat (t.getD 1 0).toNat (t.getD 2 0).toNat with⟨c,e⟩ | ⟨c1,c2,c3,cv,e⟩ | ⟨c1,c2,c3,c4,cv,cs,e⟩ | ⟨c1,c2,c3,c4,c5,cv,cw,e⟩ | e
    . exact zas (ok1.2 c) (h 1 oM oM sM)
    . obtain⟨b,u,rfl⟩: ∃b u,t=b::u:=by cases t with | nil=>simp at c2 | cons b u=>exact⟨b,u,rfl⟩
      exact zas (ok2.2 ⟨c1,c3,cv⟩) (h 2 oM oM sM)
    . obtain⟨b,c,u,rfl⟩: ∃b c u,t=b::c::u:=by
        cases t with
        | nil=>simp at c2
        | cons b u=>cases u with
          | nil=>simp at c2
          | cons c u=>exact⟨b,c,u,rfl⟩
      exact zas (ok3.2 ⟨c1,c3,c4,cv,cs⟩) (h 3 oM oM sM)
    . obtain⟨b,c,d,u,rfl⟩: ∃b c d u,t=b::c::d::u:=by
        cases t with
        | nil=>simp at c2
        | cons b u=>cases u with
          | nil=>simp at c2
          | cons c u=>cases u with
            | nil=>simp at c2
            | cons d u=>exact⟨b,c,d,u,rfl⟩
      exact zas (ok4.2 ⟨c1,c3,c4,c5,cv,cw⟩) (h 4 oM oM sM)
    rw[e,zac (.inr ⟨rfl,rfl⟩)]
variable {r:Nat}
def uP (h:iq l=some (r,n)):decodeL l=(r,n)/\1<=n/\n<=l.length/\encodeRune (r:Int)=l.take n:=by
 unfold iq at h
 split at h
 .cases h
 rename_i hn;injection h with h
 have iJ:l≠[]:=λe=>hn (.inl e);have hv: ¬((decodeL l).1=65533/\(decodeL l).2=1):=λe=>hn (.inr e);have h1:=encode_decode l iJ hv;have h2:=decodeL_le l iJ;have h3:=decodeL_width l;rw[h]at h1 h2 h3;exact⟨h,h3,h2,h1⟩
def ET (iJ:l≠[]):validD l=match iq l with | none=>false | some (_,n)=>validD (l.drop n):=by
 rw[validD_step l iJ];unfold iq
 by_cases h:(decodeL l).1=65533/\(decodeL l).2=1
 .rw[zac h,zac (.inr h)]
 rw[zaa h,zaa (λe=>e.elim iJ h)]
def nE (n:Nat):UInt8:=if n<10 then(48+n).toUInt8 else(87+n).toUInt8
def jF (c:UInt8):L8:=
 if c=34 then [92,34]else if c=92 then [92,92]else if c=8 then [92,98]else if c=12 then [92,102]else if c=10 then [92,110]else if c=13 then [92,114]else if c=9 then [92,116]
 else if c<32 then [92,117,48,48,nE (c.toNat/16),nE (c.toNat%16)]else [c]
def vV (s:L8):L8:=34::(s.flatMap jF++[34])
def nS (c:UInt8):Option Nat:=if 48<=c.toNat/\c.toNat<=57 then some (c.toNat-48)else if 97<=c.toNat/\c.toNat<=102 then some (c.toNat-87)else if 65<=c.toNat/\c.toNat<=70 then some (c.toNat-55)else none
def sV (s:L8) (second:Bool):Nat×Int:=
 match s[0]? with
 | none=>(0,3)
 | some c0=>match nS c0 with
  | none=>(0,41)
  | some d0=>if second=true/\d0≠13 then(0,41)else match s[1]? with
   | none=>(0,3)
   | some c1=>match nS c1 with
    | none=>(0,41)
    | some d1=>if second≠decide (220<=16*d0+d1/\16*d0+d1<=223)then(0,41)else match s[2]? with
     | none=>(0,3)
     | some c2=>match nS c2 with
      | none=>(0,41)
      | some d2=>match s[3]? with
       | none=>(0,3)
       | some c3=>match nS c3 with
        | none=>(0,41)
        | some d3=>(16*(16*(16*d0+d1)+d2)+d3,0)
def OE (c:UInt8):Option UInt8:=
 if c=34 then some 34 else if c=92 then some 92 else if c=47 then some 47 else if c=98 then some 8 else if c=102 then some 12 else if c=110 then some 10 else if c=114 then some 13 else if c=116 then some 9 else none
def aa6 (s:L8) (n:Nat):L8×Nat×Int:=
 match s[6]? with
 | none=>([],0,3)
 | some c6=>if c6≠92 then([],0,41)else match s[7]? with
  | none=>([],0,3)
  | some c7=>if c7≠117 then([],0,41)else
   let k:=sV (s.drop 8) true
   if k.2≠0 then([],0,k.2)else(encodeRune (65536+1024*((n:Int)-55296)+k.1-56320),12,0)
def yE (s:L8):L8×Nat×Int:=
 match s[1]? with
 | none=>([],0,3)
 | some c=>match OE c with
  | some b=>([b],2,0)
  | none=>if c≠117 then([],0,41)else
   let h:=sV (s.drop 2) false
   if h.2≠0 then([],0,h.2)
   else if h.1<55296\/56319<h.1 then(encodeRune h.1,6,0)
   else aa6 s h.1
def acV:L8->Bool
  | [a]=>decide (194<=a.toNat/\a.toNat<=244)
  | [a,b]=>decide ((a.toNat=224/\160<=b.toNat/\b.toNat<=191)\/((225<=a.toNat/\a.toNat<=236\/238<=a.toNat/\a.toNat<=239)/\128<=b.toNat/\b.toNat<=191)\/(a.toNat=237/\128<=b.toNat/\b.toNat<=159)\/
      (a.toNat=240/\144<=b.toNat/\b.toNat<=191)\/(241<=a.toNat/\a.toNat<=243/\128<=b.toNat/\b.toNat<=191)\/(a.toNat=244/\128<=b.toNat/\b.toNat<=143))
  | [a,b,c]=>decide (((a.toNat=240/\144<=b.toNat/\b.toNat<=191)\/(241<=a.toNat/\a.toNat<=243/\128<=b.toNat/\b.toNat<=191)\/(a.toNat=244/\128<=b.toNat/\b.toNat<=143))/\128<=c.toNat/\c.toNat<=191)
  | _=>false
def sW:Nat->L8->Nat->L8->L8×Nat×Int
 | 0,_,_,_=>([],0,3)
 | f+1,rest,i,out=>match rest with
  | []=>([],0,3)
  | c::t=>if c=34 then(out,i+1,0)else if c<32 then([],0,41)
   else if c=92 then(let e:=yE (c::t);if e.2.2≠0 then([],0,e.2.2)else sW f ((c::t).drop e.2.1) (i+e.2.1) (out++e.1))
   else match iq (c::t)with
    | some (_,n)=>sW f ((c::t).drop n) (i+n) (out++(c::t).take n)
    | none=>([],0,if acV (c::t)then 3 else 40)
def U6 (s:L8):L8×Nat×Int:=
 match s with
 | []=>([],0,3)
 | c::t=>if c≠34 then([],0,41)else sW (t.length+1) t 1 []
def OG (s:L8):(∃e:Int,e≠0/\yE s=([],0,e))\/∃b n,1<=n/\yE s=(b,n,0):=by
 obtain⟨x,hx⟩: ∃x,x=yE s:=⟨_,rfl⟩;rw[<-hx];unfold yE aa6 at hx;dsimp only at hx
 repeat' split at hx
 all_goals first
  | exact .inl ⟨_,dC,hx⟩
  | exact .inr ⟨_,_,dC,hx⟩
  | exact .inl ⟨_,by assumption,hx⟩
def afs: ∀{f g:Nat} {rest:L8} {i:Nat} {out:L8},rest.length<f->rest.length<g->sW f rest i out=sW g rest i out:=by
 intro f
 induction f with
 | zero=>intro g rest i out h;exact zas h (zdw _)
 | succ f ih=>
  intro g rest i out hf hg;cases g with
  | zero=>exact zas hg (zdw _)
  | succ g=>
   cases rest with
   | nil=>rfl
   | cons c t=>
    unfold sW
    have amn: ∀k,1<=k->((c::t).drop k).length<f/\((c::t).drop k).length<g:=λk hk=>by
     rw[zbo];simp only[zaq]at hf hg ⊢;omega
    dsimp only
    split
    .rfl
    split
    .rfl
    split
    .split
     .rfl
     rename_i he
     have h1:1<=(yE (c::t)).2.1:=by
      rcases OG (c::t)with⟨e,h0,hx⟩ | ⟨b,n,hn,hx⟩
      .rw[hx]at he;exact zas h0 he
      rw[hx];exact hn
     obtain⟨a,b⟩:=amn _ h1;exact ih a b
    cases hn:iq (c::t)with
    | none=>rfl
    | some x=>
     obtain⟨r,n⟩:=x;obtain⟨_,h1,_,_⟩:=uP hn;obtain⟨a,b⟩:=amn _ h1;exact ih a b
structure bR where
 kind:Int
 null:Bool
structure aC where
 null:Bool
 n:Int
 s:L8
structure bT where
 id:Int
 name:L8
 type:bR
 dflt:aC
structure bL where
 kind:Int
 n:Int
 s:L8
def bR.ext' {a b:bR} (h1:a.kind=b.kind) (h2:a.null=b.null):a=b:=by cases a;cases b;simp_all
def aC.ext' {a b:aC} (h1:a.null=b.null) (h2:a.n=b.n) (h3:a.s=b.s):a=b:=by cases a;cases b;simp_all
def bL.ext' {a b:bL} (h1:a.kind=b.kind) (h2:a.n=b.n) (h3:a.s=b.s):a=b:=by cases a;cases b;simp_all
def bT.ext' {a b:bT} (h1:a.id=b.id) (h2:a.name=b.name) (h3:a.type=b.type) (h4:a.dflt=b.dflt):a=b:=by cases a;cases b;simp_all
instance:DecidableEq bR:=λa b=>decidable_of_iff (a.kind=b.kind/\a.null=b.null) ⟨λh=>bR.ext' h.1 h.2,λh=>by subst h;exact⟨rfl,rfl⟩⟩
instance:DecidableEq aC:=λa b=>decidable_of_iff (a.null=b.null/\a.n=b.n/\a.s=b.s) ⟨λh=>aC.ext' h.1 h.2.1 h.2.2,λh=>by subst h;exact⟨rfl,rfl,rfl⟩⟩
instance:DecidableEq bL:=λa b=>decidable_of_iff (a.kind=b.kind/\a.n=b.n/\a.s=b.s) ⟨λh=>bL.ext' h.1 h.2.1 h.2.2,λh=>by subst h;exact⟨rfl,rfl,rfl⟩⟩
instance:DecidableEq bT:=λa b=>decidable_of_iff (a.id=b.id/\a.name=b.name/\a.type=b.type/\a.dflt=b.dflt) ⟨λh=>bT.ext' h.1 h.2.1 h.2.2.1 h.2.2.2,λh=>by subst h;exact⟨rfl,rfl,rfl,rfl⟩⟩
def cell0:aC:=⟨false,0,[]⟩
def bK:aC:=⟨true,0,[]⟩
def gW:bR:=⟨0,false⟩
def oD (t:bR):Bool:=decide (1<=t.kind/\t.kind<=5)
def isC (kind:Int) (c:aC):Bool:=
 if kind=1 then decide (c.s=[]/\0<=c.n/\c.n<=1)
 else if kind=2 then decide (c.s=[]/\ -2147483648<=c.n/\c.n<=2147483647)
 else if kind=3 then decide (c.s=[])
 else if kind=4 then decide (c.n=0/\c.s.length<=1024/\validD c.s=true)
 else decide (c.n=0/\c.s.length<=1024)
def gL (t:bR) (c:aC):Int:=
 if oD t=false then 2 else if c.null=true then(if t.null=true/\c=bK then 0 else 90)else if isC t.kind c=true then 0 else 90
def dU (x:bL):Bool:=
 if x.kind=1 then decide (x.s=[]/\1<=x.n/\x.n<=1048576)
 else if x.kind=2 then decide (x.s=[])
 else if x.kind=3 then decide (x.s=[]/\0<=x.n/\x.n<=1)
 else if x.kind=4 then decide (x.n=0/\x.s.length<=1024/\validD x.s=true)
 else if x.kind=5 then decide (x.n=0/\x.s.length<=1024)
 else if x.kind=6 then decide (x.s=[]/\(x.n=1\/(3<=x.n/\x.n<=5)))
 else decide (7<=x.kind/\x.kind<=18/\x.n=0/\x.s=[])
def dH (kind:Int):Nat:=if kind<7 then 0 else if kind=10\/kind=15\/kind=16\/kind=18 then 1 else 2
def oF (cols:List bT) (id:Int):Option Nat:=cols.findIdx? λc=>decide (c.id=id)
def qU (cols:List bT) (x:bL):Option bR:=
 if x.kind=1 then(match oF cols x.n with
  | none=>none
  | some i=>let t:=(cols.getD i ⟨0,[],gW,cell0⟩).type
   if oD t=false then none else some (if t.kind=2 then⟨3,t.null⟩else t))
 else if x.kind=2 then some ⟨3,false⟩
 else if x.kind=3 then some ⟨1,false⟩
 else if x.kind=4 then some ⟨4,false⟩
 else if x.kind=5 then some ⟨5,false⟩
 else some ⟨x.n,true⟩
def vW (kind:Int) (a b:bR):Option bR:=
 if kind=7\/kind=8\/kind=9\/kind=10 then(if a.kind=3/\b.kind=3 then some ⟨3,a.null||b.null⟩else none)
 else if kind=11\/kind=12 then(if a.kind=b.kind then some ⟨1,a.null||b.null⟩else none)
 else if kind=13\/kind=14\/kind=15 then(if a.kind=1/\b.kind=1 then some ⟨1,a.null||b.null⟩else none)
 else if kind=16 then some ⟨1,false⟩
 else if kind=17 then(if a.kind=b.kind then some ⟨a.kind,a.null&&b.null⟩else none)
 else(if a.kind=4\/a.kind=5 then some ⟨3,a.null||b.null⟩else none)
def stepT (cols:List bT) (st:List bR) (x:bL):Option (List bR):=
 let k:=dH x.kind
 if dU x=false\/st.length<k then none
 else(if k=0 then qU cols x else vW x.kind (st.getD (st.length-k) gW) (st.getD (st.length-1) gW)).map λt=>st.take (st.length-k)++[t]
def runT (cols:List bT):List bR->List bL->Option (List bR)
 | st,[]=>some st
 | st,x::l=>(stepT cols st x).bind λst=>runT cols st l
def iM (cols:List bT) (l:List bL):bR×Int:=
 if 64<l.length then(gW,5)else match runT cols [] l with
  | some [t]=>(t,0)
  | _=>(gW,220)
def gY (b:Bool):aC:=if b then⟨false,1,[]⟩else cell0
def aY (n:Int):Bool:=decide (-9223372036854775808<=n/\n<=9223372036854775807)
def nG (a b:aC):Int:=
 if a.null=b.null then(if a.n<b.n then -1 else if b.n<a.n then 1 else compareBytes a.s b.s)else if a.null=true then -1 else 1
def vX (kind:Int) (a b:aC):aC:=
 if kind=13/\(a=gY false\/b=gY false)then gY false
 else if kind=14/\(a=gY true\/b=gY true)then gY true
 else if a=bK\/b=bK then bK
 else if kind=15 then gY (decide (a=gY false))
 else gY (decide (kind=13))
def jl (kind:Int) (a b:aC):Option aC:=
 if kind=13\/kind=14\/kind=15 then some (vX kind a b)
 else if kind=16 then some (gY a.null)
 else if kind=17 then some (if a.null then b else a)
 else if a.null=true\/b.null=true then some bK
 else if kind=11 then some (gY (decide (nG a b=0)))
 else if kind=12 then some (gY (decide (nG a b<0)))
 else if kind=18 then some ⟨false,a.s.length,[]⟩
 else let n:=if kind=7 then a.n+b.n else if kind=8 then a.n-b.n else if kind=9 then a.n*b.n else -a.n
  if aY n=true then some ⟨false,n,[]⟩else none
def fM (cols:List bT) (r:List aC):Int:=
 if cols.length≠r.length then 100 else((cols.zip r).map λp=>gL p.1.type p.2).find? (λe=>decide (e≠0)) |>.getD 0
def acW (cols:List bT) (r:List aC) (st:List aC) (x:bL):Option (List aC):=
  let k:=dH x.kind
  (if k=0 then some (if x.kind=1 then r.getD ((oF cols x.n).getD 0) cell0 else if x.kind=6 then bK else⟨false,x.n,x.s⟩)
   else jl x.kind (st.getD (st.length-k) cell0) (st.getD (st.length-1) cell0)).map λc=>st.take (st.length-k)++[c]
def Cu (cols:List bT) (r:List aC):List aC->List bL->Option (List aC)
 | st,[]=>some st
 | st,x::l=>(acW cols r st x).bind λst=>Cu cols r st l
def mR (cols:List bT) (l:List bL) (r:List aC):aC×Int:=
 if(iM cols l).2≠0 then(cell0,(iM cols l).2)else if fM cols r≠0 then(cell0,fM cols r)
 else match Cu cols r [] l with
  | none=>(cell0,50)
  | some st=>(st.getD 0 cell0,0)
def oG (k:Int):L8:=if k=1 then [110,117,108,108,58,98,111,111,108]else if k=3 then [110,117,108,108,58,105,110,116,54,52]else if k=4 then [110,117,108,108,58,115,116,114,105,110,103]else if k=5 then [110,117,108,108,58,98,121,116,101,115]else []
def lW:List (L8):=[[43],[45],[42],[110,101,103],[61],[60],[97,110,100],[111,114],[110,111,116],[105,115,110,117,108,108],[101,108,115,101],[108,101,110]]
def zA (s:L8):L8:=s.flatMap λc=>[nE (c.toNat/16),nE (c.toNat%16)]
def R8 (s:L8):L8:=(vV s).flatMap λc=>if c=32 then [92,117,48,48,50,48]else [c]
def gX (x:bL):L8:=
 if x.kind=1 then 35::itoa x.n
 else if x.kind=2 then itoa x.n
 else if x.kind=3 then(if x.n=1 then [116,114,117,101]else [102,97,108,115,101])
 else if x.kind=4 then R8 x.s
 else if x.kind=5 then 120::zA x.s
 else if x.kind=6 then oG x.n
 else lW.getD (x.kind-7).toNat []
def iY (sep:UInt8):List (L8)->L8
 | []=>[]
 | [w]=>w
 | w::l=>w++sep::iY sep l
def iQ (l:List bL):L8×Int:=
 if 64<l.length then([],5)else if(l.all dU)=false then([],2)else(iY 32 (l.map gX),0)
def AP {r n:Nat} (h:iq l=some (r,n)):1<=n/\n<=4/\n<=l.length/\okL l n/\r=yD (l.take n):=by
 by_cases hk: ∃k,1<=k/\k<=4/\k<=l.length/\okL l k
 .obtain⟨k,h1,h4,hl,fB⟩:=hk
  rw[AL h1 h4 hl fB]at h;injection h with h
  injection h with h2 h3
  subst h3;exact⟨h1,h4,hl,fB,h2.symm⟩
 rw[Ke λk h1 h4 hl fB=>hk ⟨k,h1,h4,hl,fB⟩]at h;cases h
def aiB (h:iq l=some (r,n)) (t:L8):iq (l.take n++t)=some (r,n):=by
 obtain⟨h1,h4,hl,fB,hr⟩:=AP h
 have e:(l.take n++t).take n=l.take n:=by
  rw[zek (by rw[zah];omega),List.take_take,Nat.min_self]
 have hok':okL (l.take n++t) n:=by unfold okL at fB ⊢;rw[e];exact fB
 rw[AL h1 h4 (by rw[zad,zah];omega) hok',e,hr]
def aa7 (h:c.toNat<128):iq (c::t)=some (c.toNat,1):=by
 have:=AL (l:=c::t) (k:=1) oM oM sM (ok1.2 h);simpa[yD]using this
def aft (h:iq l=some (r,n)) (hn:n≠1): ∀c∈l.take n,128<=c.toNat:=by
 obtain⟨h1,h4,hl,fB,_⟩:=AP h;have hn':n=2\/n=3\/n=4:=oM
 rcases hn' with rfl | rfl | rfl
 .obtain⟨a,b,t,rfl⟩: ∃a b t,l=a::b::t:=by match l,hl with | a::b::t,_=>exact⟨a,b,t,rfl⟩
  obtain⟨h2,h3,_⟩:=ok2.1 fB;intro c hc;simp at hc
  rcases hc with rfl | rfl<;>omega
 .obtain⟨a,b,c,t,rfl⟩: ∃a b c t,l=a::b::c::t:=by match l,hl with | a::b::c::t,_=>exact⟨a,b,c,t,rfl⟩
  obtain⟨h2,h3,h5,_⟩:=ok3.1 fB;intro x hc;simp at hc
  rcases hc with rfl | rfl | rfl<;>omega
 obtain⟨a,b,c,d,t,rfl⟩: ∃a b c d t,l=a::b::c::d::t:=by match l,hl with | a::b::c::d::t,_=>exact⟨a,b,c,d,t,rfl⟩
 obtain⟨h2,h3,h5,h6,_⟩:=ok4.1 fB;intro x hc;simp at hc
 rcases hc with rfl | rfl | rfl | rfl<;>omega
def aiC (h:iq l=some (r,1)): ∃c t,l=c::t/\c.toNat<128:=by
 obtain⟨h1,h4,hl,fB,_⟩:=AP h;cases l with
 | nil=>simp at hl
 | cons c t=>exact⟨c,t,rfl,ok1.1 fB⟩
def afu {p:L8->Prop} (h0:p []) (h1: ∀c t,c.toNat<128->validD t=true->p t->p (c::t))
    (h2: ∀l r n,iq l=some (r,n)->n≠1->validD (l.drop n)=true->p (l.drop n)->p l): ∀{l:L8},validD l=true->p l:=by
  intro l
  induction hk:l.length using Nat.strongRecOn generalizing l with
  | _ k ih=>
    intro hv;cases l with
    | nil=>exact h0
    | cons a u=>
      rw[ET sM]at hv;cases hn:iq (a::u)with
      | none=>rw[hn]at hv;cases hv
      | some x=>
        obtain⟨r,n⟩:=x;rw[hn]at hv;dsimp only at hv;obtain⟨k1,_,k3,_,_⟩:=AP hn;have af3:=ih ((a::u).drop n).length (by rw[zbo,<-hk];simp only[zaq]at k3 ⊢;omega) rfl hv
        by_cases he:n=1
        . subst he
          obtain⟨c,t,e,hc⟩:=aiC hn;injection e with e1 e2
          subst e1;subst e2;exact h1 a u hc hv af3
        exact h2 _ r n hn he hv af3
def iP (c:UInt8):L8:=if c=32 then [92,117,48,48,50,48]else jF c
def K7 (h:128<=c.toNat):jF c=[c]:=by
 unfold jF;have e: ∀k:UInt8,k.toNat<128->c≠k:=λk hk e=>by subst e;omega
 rw[zaa (e _ dC),zaa (e _ dC),zaa (e _ dC),zaa (e _ dC),zaa (e _ dC),zaa (e _ dC),zaa (e _ dC),zaa (λh2=>by have:=UInt8.lt_iff_toNat_lt.1 h2;simp at this;omega)]
def YD (h:128<=c.toNat):iP c=[c]:=by
 unfold iP;rw[zaa (λe=>by subst e;simp at h),K7 h]
def DK (h:n<16):nE n≠32:=by
 have : ∀n:Fin 16,nE n.val≠32:=by decide
 exact this ⟨n,h⟩
def YE (c:UInt8):(jF c).flatMap (λc=>if c=32 then [92,117,48,48,50,48]else [c])=iP c:=by
 unfold iP
 by_cases h:c=32
 .subst h;rfl
 rw[zaa h];have h1:nE (c.toNat/16)≠32:=DK (by have:=c.toNat_lt;omega);have h2:nE (c.toNat%16)≠32:=DK oM;unfold jF
 repeat' split
 all_goals simp_all
def Cv (s:L8):R8 s=34::(s.flatMap iP++[34]):=by
 unfold R8 vV;rw[zbh,zbv,List.flatMap_assoc];have e:(λc=>(jF c).flatMap (λc=>if c=32 then [92,117,48,48,50,48]else [c]))=iP:=funext YE;rw[e];rfl
def R9 {d:Nat} (h:d<16):nS (nE d)=some d:=by
 have : ∀d:Fin 16,nS (nE d.val)=some d.val:=by decide
 exact this ⟨d,h⟩
def aiD {a b:Nat} {t:L8} (ha:a<16) (hb:b<16):sV (48::48::nE a::nE b::t) false=(16*a+b,0):=by
 have e:nS 48=some 0:=rfl;unfold sV;simp[e,R9 ha,R9 hb]
def ak1 (h:c.toNat<128):encodeRune (c.toNat:Int)=[c]:=by
 rw[encodeRune,encodeRuneZ_one oM oM];simp
def ak2 (h:c.toNat<128):yE (92::117::48::48::nE (c.toNat/16)::nE (c.toNat%16)::t)=([c],6,0):=by
 have hh:=aiD (t:=t) (show c.toNat/16<16 from oM) (show c.toNat%16<16 from oM);have e2:16*(c.toNat/16)+c.toNat%16=c.toNat:=oM;rw[e2]at hh;have e3:OE 117=none:=rfl;unfold yE;simp only[zcm,zca,e3,zer,zde,hh];simp only[ne_eq,not_true_eq_false,if_false];rw[zac (.inl oM),ak1 h]
def aiE (h:c.toNat<128) (f i:Nat) (u out:L8):sW (f+1) (iP c++u) i out=sW f u (i+(iP c).length) (out++[c]):=by
 have key: ∀x b:UInt8,OE x=some b->sW (f+1) (92::x::u) i out=sW f u (i+2) (out++[b]):=by
  intro x b hx
  have e:yE (92::x::u)=([b],2,0):=by
   unfold yE;simp only[zcm,zca,hx]
  rw[sW];simp only[e];simp
 have key2:sW (f+1) (92::117::48::48::nE (c.toNat/16)::nE (c.toNat%16)::u) i out=sW f u (i+6) (out++[c]):=by
  rw[sW];simp only[ak2 h];simp
 unfold iP
 by_cases h0:c=32
 .subst h0;rw[zac rfl];exact key2
 rw[zaa h0];unfold jF
 by_cases h1:c=34
 .subst h1;exact key 34 34 rfl
 rw[zaa h1]
 by_cases h2:c=92
 .subst h2;exact key 92 92 rfl
 rw[zaa h2]
 by_cases h3:c=8
 .subst h3;exact key 98 8 rfl
 rw[zaa h3]
 by_cases h4:c=12
 .subst h4;exact key 102 12 rfl
 rw[zaa h4]
 by_cases h5:c=10
 .subst h5;exact key 110 10 rfl
 rw[zaa h5]
 by_cases h6:c=13
 .subst h6;exact key 114 13 rfl
 rw[zaa h6]
 by_cases h7:c=9
 .subst h7;exact key 116 9 rfl
 rw[zaa h7]
 by_cases h8:c<32
 .rw[zac h8];exact key2
 rw[zaa h8];show sW (f+1) (c::u) i out=_
 rw[sW];simp only[h1,h8,h2,if_false,aa7 h];simp
def afv (h: ∀c∈l,128<=c.toNat):l.flatMap iP=l:=by
 induction l with
 | nil=>rfl
 | cons c l ih=>
  rw[zbh,YD (h c zao),ih λx hx=>h x (zau _ hx)];rfl
def aiF {s:L8} (hv:validD s=true): ∀(f i:Nat) (u out:L8),(s.flatMap iP++34::u).length<=f->sW f (s.flatMap iP++34::u) i out=(out++s,i+(s.flatMap iP).length+1,0):=by
 refine afu (p:=λs=>∀(f i:Nat) (u out:L8),(s.flatMap iP++34::u).length<=f->sW f (s.flatMap iP++34::u) i out=(out++s,i+(s.flatMap iP).length+1,0)) ?_ ?_ ?_ hv
 .intro f i u out hf
  cases f with
  | zero=>simp at hf
  | succ f=>rw[zfm,zbw,sW];simp
 .intro c t hc _ ih f i u out hf
  have hq:1<=(iP c).length:=by
   unfold iP jF
   repeat' split
   all_goals simp
  rw[zbh,zbm]at hf ⊢;rw[zad]at hf;cases f with
  | zero=>omega
  | succ f=>
   rw[aiE hc,ih f _ u _ oM,zbm,zad];simp only[zcb,zbw,Prod.mk.injEq,and_true,true_and];omega
 intro l r n hn h1 _ ih f i u out hf;obtain⟨k1,_,k3,_,_⟩:=AP hn;have hh:=aft hn h1
 have e:l.flatMap iP=l.take n++(l.drop n).flatMap iP:=by
  conv=>lhs;rw[<-zbs n l]
  rw[zbv,afv hh]
 rw[e,zbm]at hf ⊢;rw[zad,zah]at hf;cases f with
 | zero=>omega
 | succ f=>
  have ha:=aiB hn ((l.drop n).flatMap iP++34::u)
  obtain⟨c,t,ect⟩: ∃c t,l.take n++((l.drop n).flatMap iP++34::u)=c::t:=by
   cases h0:l.take n++((l.drop n).flatMap iP++34::u)with
   | nil=>simp at h0
   | cons c t=>exact⟨c,t,rfl⟩
  have hc:128<=c.toNat:=by
   refine hh c ?_;cases ht:l.take n with
   | nil=>rw[List.take_eq_nil_iff]at ht;rcases ht with rfl | rfl<;>simp at k1 k3;omega
   | cons a b=>rw[ht]at ect;injection ect with e1 _;rw[e1];exact zao
  have e2: ∀k:UInt8,k.toNat<128->c≠k:=λk hk e=>by subst e;omega
  have hd:(c::t).drop n=(l.drop n).flatMap iP++34::u:=by rw[<-ect,zel (by rw[zah];omega),List.drop_take,zec,zdh,zbw]
  have ht:(c::t).take n=l.take n:=by rw[<-ect,zek (by rw[zah];omega),List.take_take,Nat.min_self]
  rw[ect]at ha ⊢;rw[sW];dsimp only;rw[zaa (e2 _ dC),zaa (λh2=>by have:=UInt8.lt_iff_toNat_lt.1 h2;simp at this;omega),zaa (e2 _ dC),ha];dsimp only;rw[hd,ht,ih f _ u _ oM,zbm,zbs,zad,zah];simp only[Prod.mk.injEq,and_true,true_and];omega
def aiG {s:L8} (hv:validD s=true):U6 (R8 s)=(s,(R8 s).length,0):=by
 rw[Cv];unfold U6;dsimp only;rw[zaa sM,aiF hv _ _ [] [] oM];simp;omega
end Go.Proofs.Mw
