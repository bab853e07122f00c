/-
 Short names.
-/
import Derived.WalkKit
import Derived.Orders
import Derived.Still
import Derived.TacticsIn
import Derived.OrdersIn
import Derived.RangeFuncCalls
import Derived.RangeFuncLeaves
import Derived.RangeFuncRecord
import Derived.Laws.Rows
import Derived.Laws.Append
import Derived.Laws.MakeOwn
import Derived.IntWalk
set_option linter.unusedVariables false
set_option linter.unusedSimpArgs false
namespace Go
abbrev L8:=List UInt8
abbrev LV:=List Value
abbrev OA:=Option Addr
abbrev LNB:=List (Nat×Bool)
abbrev NP:=Nat->Prop
abbrev AO:=Array Oper
abbrev LO:=List Oper
abbrev Wd:=World
abbrev Td:=TypeId
abbrev Od:=Operand
theorem tR {p:Prop} (h:p:=by repeat (first | exact trivial | refine⟨rfl,?_⟩)):p:=h
theorem oM {p:Prop} (h:p:=by omega):p:=h
theorem kR {p:Prop} (h:p:=by kernel_rfl):p:=h
theorem dO {p:Prop} (h:p:=by dsimp only;omega):p:=h
theorem sM {p:Prop} (h:p:=by simp):p:=h
theorem dC {p:Prop} (h:p:=by decide):p:=h
abbrev zaa:=@List.getElem?_eq_getElem
abbrev zab:=@if_neg
abbrev zac:=@if_pos
abbrev zad:=@List.length_append
abbrev zae:=@List.length_map
abbrev zaf:=@List.take_of_length_le
abbrev zag:=@List.length_take
abbrev zah:=@List.mem_cons_self
abbrev zai:=@List.mem_cons_of_mem
abbrev zaj:=@List.not_mem_nil
abbrev zak:=@Nat.zero_le
abbrev zal:=@List.length_cons
abbrev zam:=@List.map_append
abbrev zan:=@List.length_singleton
abbrev zao:=@List.mem_of_getElem?
abbrev zap:=@List.mem_cons
abbrev zaq:=@List.mem_map
abbrev zar:=@decide_eq_false
abbrev zas:=@Result.andThen_ok
abbrev zat:=@absurd
abbrev zau:=@List.getD_eq_getElem?_getD
abbrev zav:=@List.take_add_one
abbrev zaw:=@congrArg
abbrev zax:=@List.map_cons
abbrev zay:=@List.mem_singleton
abbrev zaz:=@List.all_eq_true
abbrev zba:=@of_decide_eq_true
abbrev zbb:=@Option.map_eq_some_iff
abbrev zbc:=@Nat.le_of_ble_eq_true
abbrev zbd:=@List.getElem?_eq_some_iff
abbrev zbe:=@decide_eq_true
abbrev zbf:=@Nat.le_refl
abbrev zbg:=@List.flatMap_cons
abbrev zbh:=@List.mem_append
abbrev zbi:=@List.eq_nil_of_length_eq_zero
abbrev zbj:=@decide_eq_decide
abbrev zbk:=@Sem.run_bind
abbrev zbl:=@List.take_length
abbrev zbm:=@Array.getD_eq_getD_getElem?
abbrev zbn:=@Sem.run_pure
abbrev zbo:=@List.mem_of_mem_take
abbrev zbp:=@List.getElem?_cons_zero
abbrev zbq:=@List.drop_eq_getElem_cons
abbrev zbr:=@List.nil_append
abbrev zbs:=@List.append_assoc
abbrev zbt:=@Classical.not_not
abbrev zbu:=@List.length_drop
abbrev zbv:=@Bool.and_eq_true
abbrev zbw:=@List.mem_filter
abbrev zbx:=@List.take_append_drop
abbrev zby:=@List.getElem?_cons_succ
abbrev zbz:=@Array.getElem?_setIfInBounds
abbrev zca:=@List.drop_of_length_le
abbrev zcb:=@List.getElem?_append_right
abbrev zcc:=@List.cons_append
abbrev zcd:=@List.flatMap_append
abbrev zce:=@List.getElem?_append_left
abbrev zcf:=@List.getElem?_map
abbrev zcg:=@List.mem_append_left
abbrev zch:=@List.mem_append_right
abbrev zci:=@List.append_nil
abbrev zcj:=@List.find?_cons
abbrev zck:=@Nat.min_eq_left
abbrev zcl:=@List.map_toArray
abbrev zcm:=@List.contains_iff_mem
abbrev zcn:=@List.getElem?_take
abbrev zco:=@List.map_congr_left
abbrev zcp:=@Nat.le_trans
abbrev zcq:=@List.length_nil
abbrev zcr:=@List.map_nil
abbrev zcs:=@List.getElem?_eq_none
abbrev zct:=@List.getElem?_drop
abbrev zcu:=@List.pairwise_cons
abbrev zcv:=@List.filter_sublist
abbrev zcw:=@Int.toNat_of_nonneg
abbrev zcx:=@List.map_eq_nil_iff
abbrev zcy:=@List.map_map
abbrev zcz:=@Array.getElem?_eq_some_iff
abbrev zda:=@List.mem_flatMap
abbrev zdb:=@Array.getElem?_modify
abbrev zdc:=@List.findIdx?_eq_some_iff_getElem
abbrev zdd:=@Option.toList_some
abbrev zde:=@List.take_succ_cons
abbrev zdf:=@Option.map_some
abbrev zdg:=@List.drop_zero
abbrev zdh:=@List.getElem?_of_mem
abbrev zdi:=@Array.getElem?_eq_none
abbrev zdj:=@Bool.eq_iff_iff
abbrev zdk:=@Option.getD_some
abbrev zdl:=@List.mem_range
abbrev zdm:=@Bool.not_eq_true
abbrev zdn:=@Bool.not_eq_true'
abbrev zdo:=@List.take_zero
abbrev zdp:=@Array.getElem?_eq_getElem
abbrev zdq:=@List.filter_cons
abbrev zdr:=@Option.bind_some
abbrev zds:=@Nat.zero_add
abbrev zdt:=@Array.mem_of_getElem?
abbrev zdu:=@List.length_range
abbrev zdv:=@Int.toNat_natCast
abbrev zdw:=@List.length_filter_le
abbrev zdx:=@Option.bind_eq_some_iff
abbrev zdy:=@Bool.true_and
abbrev zdz:=@Nat.lt_or_ge
abbrev zea:=@Nat.succ_mul
abbrev zeb:=@List.mem_map_of_mem
abbrev zec:=@List.mem_of_find?_eq_some
abbrev zed:=@List.findIdx?_eq_none_iff
abbrev zee:=@List.getElem?_toArray
abbrev zef:=@Array.getElem?_replicate
abbrev zeg:=@List.set_cons_zero
abbrev zeh:=@Nat.eq_zero_or_pos
abbrev zei:=@Array.size_setIfInBounds
abbrev zej:=@List.take_append_of_le_length
abbrev zek:=@List.getElem?_mapIdx
abbrev zel:=@List.ext_getElem?
abbrev zem:=@List.nodup_append
abbrev zen:=@Nat.not_lt_zero
abbrev zeo:=@List.drop_succ_cons
abbrev zep:=@List.flatMap_nil
abbrev zeq:=@List.find?_eq_none
abbrev zer:=@List.length_replicate
abbrev zes:=@Array.getElem?_setIfInBounds_ne
abbrev zet:=@List.nodup_cons
abbrev zeu:=@Option.isSome_iff_exists
abbrev zev:=@Nat.sub_self
abbrev zew:=@List.exists_cons_of_length_pos
abbrev zex:=@List.getD_cons_zero
abbrev zey:=@List.filter_eq_self
abbrev zez:=@Array.toList_modify
abbrev zfa:=@Int.eq_ofNat_of_zero_le
abbrev zfb:=@List.length_pos_iff
abbrev zfc:=@List.replicate_succ
abbrev zfd:=@Nat.lt_succ_self
abbrev zfe:=@List.drop_append_of_le_length
abbrev zff:=@List.drop_length
abbrev zfg:=@Nat.min_eq_right
abbrev zfh:=@Option.map_eq_none_iff
abbrev zfi:=@List.filter_append
abbrev zfj:=@Nat.add_zero
abbrev zfk:=@Nat.sub_zero
abbrev zfl:=@Array.getElem?_append
abbrev zfm:=@List.set_append_right
abbrev zfn:=@List.length_mergeSort
abbrev zfo:=@List.size_toArray
abbrev zfp:=@Array.toList_push
abbrev zfq:=@true_and
abbrev zfr:=@Int.fdiv_eq_ediv_of_nonneg
abbrev zfs:=@Array.getElem?_append_left
abbrev zft:=@List.mem_iff_getElem
abbrev zfu:=@List.mem_of_mem_drop
abbrev zfv:=@List.extract_eq_take_drop
abbrev zfw:=@List.drop_drop
abbrev zfx:=@List.getElem?_eq_none_iff
abbrev zfy:=@List.pairwise_iff_getElem
abbrev zfz:=@List.getElem_mem
abbrev zga:=@List.getD_cons_succ
abbrev zgb:=@Array.toList_filter
abbrev zgc:=@Array.length_toList
abbrev zgd:=@List.getElem_of_mem
abbrev zge:=@List.length_zipWith
abbrev zgf:=@List.set_cons_succ
abbrev zgg:=@List.findIdx?_cons
abbrev zgh:=@List.length_set
abbrev zgi:=@Bool.false_and
abbrev zgj:=@Nat.add_comm
end Go
namespace Go.Mw
open Go.RowKit
structure St where
 get:Nat->Value
 ds:List Deferred
instance:CoeFun St (λ_=>Nat->Value):=⟨St.get⟩
theorem St.ab5 {σ τ:St} (h: ∀x,σ x=τ x) (hd:σ.ds=τ.ds):σ=τ:=by
 cases σ;cases τ;simp only at hd;subst hd;congr 1;exact funext h
def upd (σ:St) (d:Nat) (v:Value):St:={get:=λx=>bif Nat.beq x d then v else σ x,ds:=σ.ds}
theorem upd_same (σ:St) (d:Nat) (v:Value):(upd σ d v).get d=v:=by simp[upd]
theorem upd_ne (σ:St) (d:Nat) (v:Value) (x:Nat) (h:x≠d):(upd σ d v).get x=σ.get x:=by
 have :Nat.beq x d=false:=by
  cases hb:Nat.beq x d
  .rfl
  exact zat (Nat.eq_of_beq_eq_true hb) h
 simp[upd,this]
theorem bB (σ:St) (d:Nat) (v:Value):(upd σ d v).ds=σ.ds:=rfl
def uV (σ:St):Option Nat->Value->St
 | some d,v=>upd σ d v
 | none,_=>σ
theorem Ji (σ:St) (o:Option Nat) (v:Value):(uV σ o v).ds=σ.ds:=by cases o<;>rfl
def und:St:=⟨λ_=>undef,[]⟩
def evF (σ:St):Od->Value
 | .tmp t=>σ t
 | .const v=>v
 | .global g=>.pointer (some ⟨g,0,none⟩)
 | .func f=>.func (.func f) #[] #[]
theorem pD {p:Prop} (h:p:=by first | with_reducible exact rfl | kernel_rfl):p:=h
theorem eV {p:Prop} (h:p:=by simp only[evF,upd_same,upd_ne,ne_eq,Nat.reduceEqDiff,not_false_eq_true];rfl):p:=h

structure Rep (n:Nat) (σ:St) (a:Act):Prop where
 size:a.tmps.size=n
 defers:a.defers=σ.ds
 get: ∀i,a.tmps.getD i undef=σ i

section
variable {n:Nat} {σ:St} {a:Act}
theorem Rep.eval (h:Rep n σ a):a.eval=evF σ:=by
 funext x
 cases x with
 | tmp t=>exact h.get t
 | _=>rfl
theorem Rep.put (h:Rep n σ a) {d:Nat} (hd:d<n) (v:Value):Rep n (upd σ d v) (a.put (some d) v):=by
 refine⟨by simpa[Act.put]using h.size,h.defers,λi=>?_⟩
 by_cases hi:i=d
 .subst hi
  have :i<a.tmps.size:=by rw[h.size];exact hd
  simp[Act.put,upd_same,zbm,this]
 rw[upd_ne _ _ _ _ hi,<-h.get i];simp[Act.put,zbm,zes (Ne.symm hi)]
def Rj (n:Nat):Option Nat->Bool
 | some d=>Nat.blt d n
 | none=>true
theorem Rep.Qx (h:Rep n σ a) {d:Option Nat} (hd:Rj n d=true) (v:Value):Rep n (uV σ d v) (a.put d v):=by
 cases d with
 | none=>exact h
 | some d=>exact h.put (zbc hd) v
end

def eD (ops:AO) (σ:St) (j:Nat):Option Bool:=
 match(ops[j]?).bind (·.dst)with
 | some d=>(match σ d with | .bool b=>some b | _=>none)
 | none=>none
theorem Rep.yielded {n:Nat} {σ:St} {a:Act} (h:Rep n σ a) (ops:AO) (hd: ∀(j:Nat) (d:Nat),(ops[j]?).bind (λo:Oper=>o.dst)=some d->d<n):Go.yielded ops a.tmps=eD ops σ:=by
 funext j
 unfold Go.yielded eD;cases hj:(ops[j]?).bind (·.dst)with
 | none=>rfl
 | some d=>
  have bX:d<a.tmps.size:=by rw[h.size];exact hd j d hj
  have hg:=h.get d
  have :a.tmps[d]? =some (σ d):=by
   rw[zdp bX,<-hg];simp[zbm,bX]
  simp only[zdr,this]
  split<;>rename_i hq<;>first | (injection hq with hq;rw[hq]) | (split<;>first | rfl | (rename_i tC;exact zat (by rw[tC]) (hq _)))
theorem Rep.NI {n:Nat} {σ:St} {a:Act} (h:Rep n σ a) (ops:AO) {j:Nat} {d:Nat} (hj:(ops[j]?).bind (λo:Oper=>o.dst)=some d) {b:Bool} (hb:σ d=.bool b):Go.yielded ops a.tmps j=some b:=by
 unfold Go.yielded;have hg:=h.get d;rw[hb]at hg
 have :a.tmps[d]? =some (.bool b):=by
  cases hq:a.tmps[d]? with
  | none=>simp[zbm,hq,undef]at hg
  | some v=>simp[zbm,hq]at hg;rw[hg]
 simp only[hj,zdr,this]

abbrev Post:=Exit->St->Wd->Prop
def lift (n:Nat) (Q:Post):Exit->Act->Wd->Prop:=λe a w=>∃σ,Rep n σ a/\Q e σ w

def fen (r:Option Nat):Fence:={fn:=λ_=>True,depth:=none,alive:=false,round:=r}
theorem uJ {P:Program} {f:FuncId} {args:Array Value} {w:Wd} {R:Ending->Wd->Prop} (r:Option Nat) (h:Calls P f args w R):CallsIn (fen r) 0 P f args w R:=callsIn_wide.2 h
def FW (P:Program) (r:Option Nat) (n:Nat) (c:Code) (Q:Post) (σ:St) (w:Wd):Prop:=∀a,Rep n σ a->c.wpIn (fen r) 0 P (lift n Q) a w
def FL (P:Program) (r:Option Nat) (n:Nat) (ops:AO) (Q:Post) (rest:LO) (σ:St) (w:Wd):Prop:=∀a,Rep n σ a->wpListIn (fen r) 0 P ops (lift n Q) rest a w

def gu (P:Program) (r:Option Nat) (n:Nat) (b:Code) (Q:Post):Post:=λe σ w=>match e with
 | .normal=>FW P r n b Q σ w
 | e=>Q e σ w
def gy (id:Nat) (Q:Post):Post:=λe σ w=>match e with
 | .exit id'=>if id'=id then Q .normal σ w else Q (.exit id') σ w
 | e=>Q e σ w

section
variable {P:Program} {r:Option Nat} {n:Nat} {Q:Post} {σ:St} {w:Wd}
theorem FW.mono {c:Code} {Q':Post} (h:FW P r n c Q σ w) (hq: ∀e σ w,Q e σ w->Q' e σ w):FW P r n c Q' σ w:=
 λa ha=>Go.wpIn_mono (h a ha) λ_ _ _ ⟨s,hs,hQ⟩=>⟨s,hs,hq _ _ _ hQ⟩
theorem aU {b:Code} (h:FW P r n b Q σ w):gu P r n b Q .normal σ w:=h
theorem fG {b:Code} (h:Q .ret σ w):gu P r n b Q .ret σ w:=h
theorem zY {b:Code} {id:Nat} (h:Q (.exit id) σ w):gu P r n b Q (.exit id) σ w:=h
theorem y9 {id:Nat} (h:Q .normal σ w):gy id Q .normal σ w:=h
theorem dF {id:Nat} (h:Q .ret σ w):gy id Q .ret σ w:=h
theorem Ej {id:Nat} (h:Q .normal σ w):gy id Q (.exit id) σ w:=by simp only[gy,if_true];exact h
theorem xq {id id':Nat} (iF:Nat.beq id' id=false) (h:Q (.exit id') σ w):gy id Q (.exit id') σ w:=by
 have :id'≠id:=λe=>by subst e;simp at iF
 simp only[gy,zab this];exact h

theorem fC {x y:Code} (h:FW P r n x (gu P r n y Q) σ w):FW P r n (.seq x y) Q σ w:=λa ha=>
 wpIn_seq (Go.wpIn_mono (h a ha) λe _ _ ⟨s,hs,hQ⟩=>by
  cases e<;>first | exact hQ _ hs | exact⟨s,hs,hQ⟩)
theorem ab6 (h:Q .normal σ w):FW P r n .skip Q σ w:=λ_ ha=>wpIn_skip ⟨σ,ha,h⟩
theorem fu (h:Q .ret σ w):FW P r n .ret Q σ w:=λ_ ha=>wpIn_ret ⟨σ,ha,h⟩
theorem Nj {id:Nat} (h:Q (.exit id) σ w):FW P r n (.exit id) Q σ w:=λ_ ha=>wpIn_exit ⟨σ,ha,h⟩
theorem NJ {id:Nat} {c:Code} (h:FW P r n c (gy id Q) σ w):FW P r n (.block id c) Q σ w:=λa ha=>
 wpIn_block (Go.wpIn_mono (h a ha) λe a' w' ⟨s,hs,hQ⟩=>by
  cases e with
  | exit id'=>
   by_cases hid:id'=id
   .subst hid;simp only[gy,if_true]at hQ;simp only[Exit.inBlock,if_true];exact⟨s,hs,hQ⟩
   simp only[gy,zab hid]at hQ;simp only[Exit.inBlock,zab hid];exact⟨s,hs,hQ⟩
  | _=>exact⟨s,hs,hQ⟩)
theorem Nk {c:Od} {x y:Code} {t:Bool} (hc:evF σ c=.bool t) (ht:t=true->FW P r n x Q σ w) (hf:t=false->FW P r n y Q σ w):FW P r n (.cond c x y) Q σ w:=λa ha=>
 wpIn_cond_split (by rw[ha.eval];exact hc) (λh=>ht h a ha) (λh=>hf h a ha)
theorem xu {c:Od} {x y:Code} (hc:evF σ c=.bool true) (h:FW P r n x Q σ w):FW P r n (.cond c x y) Q σ w:=Nk hc (λ_=>h) (λh=>by cases h)
theorem FB {c:Od} {x y:Code} (hc:evF σ c=.bool false) (h:FW P r n y Q σ w):FW P r n (.cond c x y) Q σ w:=Nk hc (λh=>by cases h) (λ_=>h)
theorem Ko {id:Nat} {l:LO} (h:FL P r n l.toArray Q l σ w):FW P r n (.region id l.toArray false) Q σ w:=λa ha=>wpIn_region_lit (h a ha)

def dA (σ:St):List (Nat×Value)->St
 | []=>σ
 | (d,v)::l=>upd (dA σ l) d v
def holds (σ:St):List (Nat×Value)->Prop
 | []=>True
 | (d,v)::l=>σ d=v/\holds σ l
theorem xX (σ:St) (d:Nat):upd σ d (σ d)=σ:=by
 refine St.ab5 (λx=>?_) rfl
 by_cases h:x=d
 .subst h;simp[upd_same]
 simp[upd_ne _ _ _ _ h]
theorem zJ {σ:St}: ∀{l:List (Nat×Value)},holds σ l->dA σ l=σ
 | [],_=>rfl
 | (d,v)::l,⟨h,hl⟩=>by
  show upd (dA σ l) d v=σ
  rw[zJ hl,<-h,xX]

def like (σ τ:St):St:=⟨τ.get,σ.ds⟩
theorem bY:und.ds=[]:=rfl
theorem Rk {σ τ:St} (h:τ.ds=σ.ds):like σ τ=τ:=St.ab5 (λ_=>rfl) h.symm
theorem ajf {X:Type} {c:Code} (l:X->List (Nat×Value)) (I:X->Wd->Prop) (m:X->Wd->Nat) (x₀:X) (h₀:holds σ (l x₀)) (hI:I x₀ w)
    (round: ∀x τ w,I x w->FW P r n c (λe σ' w'=>match e with | .normal=>σ'.ds=σ.ds/\∃x',holds σ' (l x')/\I x' w'/\m x' w'<m x w | e=>Q e σ' w') (dA (like σ τ) (l x)) w):FW P r n (.loop c) Q σ w:=by
  intro a ha b kk cs hro hb hr
  have key: ∀k a w,(∃x σ',Rep n σ' a/\σ'.ds=σ.ds/\holds σ' (l x)/\I x w/\m x w=k)->
      ∃e a' w',lift n Q e a' w'/\ArrivesIn (Machine.fenced P (fen r)) P (lone (b.atR a (.code c:: .inLoop c::kk)) cs w) b kk cs e a' w':=by
    intro k
    induction k using Nat.strongRecOn with
    | _ k ih=>
      rintro a w ⟨x,σ',hrp,ZL,hh,hi,hm⟩;have Lv:=round x σ' w hi;rw[Rk ZL,zJ hh]at Lv;obtain⟨e,a₁,w₁,⟨s,hs,hq⟩,Zm⟩:=Lv a hrp b (.inLoop c::kk) cs hro hb hr;cases e with
      | normal=>
        obtain⟨aqK,x',Kk,hi',bX⟩:=hq;obtain⟨e₂,a₂,w₂,hq2,harr2⟩:=ih _ oM a₁ w₁ ⟨x',s,hs,aqK,Kk,hi',rfl⟩;exact⟨e₂,a₂,w₂,hq2,.of_steps (StepsIn.trans Zm (.one (fenced_calm hb hr rfl) stepR_inLoop)) harr2⟩
      | exit id=>exact⟨_,a₁,w₁,⟨s,hs,hq⟩,.pass (x:=.inLoop c) rfl (λ_ _=>.inl sM) Zm⟩
      | goto g=>exact⟨_,a₁,w₁,⟨s,hs,hq⟩,.pass (x:=.inLoop c) rfl (λ_ _=>.inl sM) Zm⟩
      | ret=>exact⟨_,a₁,w₁,⟨s,hs,hq⟩,.pass (x:=.inLoop c) rfl (λ_ _=>.inl sM) Zm⟩
      | panic chain=>exact⟨_,a₁,w₁,⟨s,hs,hq⟩,.pass (x:=.inLoop c) rfl (λ_ _=>.inl sM) Zm⟩
      | outgrown=>exact⟨_,a₁,w₁,⟨s,hs,hq⟩,.pass (x:=.inLoop c) rfl (λ_ _=>.inl sM) Zm⟩
  obtain⟨e,a',w',hq,Zm⟩:=key _ a w ⟨x₀,σ,ha,rfl,h₀,hI,rfl⟩;exact⟨e,a',w',hq,.of_steps (.one (fenced_calm hb hr rfl) stepR_loop) Zm⟩
def dh {X:Type} (ds:List Deferred) (l:X->List (Nat×Value)) (I:X->Wd->Prop) (m:X->Wd->Nat) (x:X) (w:Wd) (Q:Post):Post:=
 λe σ' w'=>match e with | .normal=>σ'.ds=ds/\∃x',holds σ' (l x')/\I x' w'/\m x' w'<m x w | e=>Q e σ' w'
theorem aP {X:Type} {c:Code} (l:X->List (Nat×Value)) (I:X->Wd->Prop) (m:X->Wd->Nat) (x₀:X) (h₀:holds σ (l x₀)) (hI:I x₀ w)
    (round: ∀x τ w,I x w->FW P r n c (dh σ.ds l I m x w Q) (dA (like σ τ) (l x)) w):FW P r n (.loop c) Q σ w:=ajf l I m x₀ h₀ hI round
section
variable {X:Type} {ds:List Deferred} {l:X->List (Nat×Value)} {I:X->Wd->Prop} {m:X->Wd->Nat} {x:X} {w0:Wd}
theorem ak (x':X) (h:holds σ (l x')) (hI:I x' w) (hm:m x' w<m x w0) (hd:σ.ds=ds:=by exact rfl):dh ds l I m x w0 Q .normal σ w:=⟨hd,x',h,hI,hm⟩
theorem mW (h:Q .ret σ w):dh ds l I m x w0 Q .ret σ w:=h
theorem CS {id:Nat} (h:Q (.exit id) σ w):dh ds l I m x w0 Q (.exit id) σ w:=h
end
def gH {X:Type} (ds:List Deferred) (l:X->List (Nat×Value)) (I:X->Wd->Prop) (Q:Post):Post:=
 λe σ' w'=>match e with | .normal=>σ'.ds=ds/\∃x',holds σ' (l x')/\I x' w' | e=>Q e σ' w'
theorem aG {X:Type} {ds:List Deferred} {l:X->List (Nat×Value)} {I:X->Wd->Prop} (x':X) (h:holds σ (l x')) (hI:I x' w) (hd:σ.ds=ds:=by exact rfl):gH ds l I Q .normal σ w:=⟨hd,x',h,hI⟩
theorem mG {X:Type} {ds:List Deferred} {l:X->List (Nat×Value)} {I:X->Wd->Prop} (h:Q .ret σ w):gH ds l I Q .ret σ w:=h
theorem adb {X:Type} {ds:List Deferred} {l:X->List (Nat×Value)} {I:X->Wd->Prop} {id:Nat} (h:Q (.exit id) σ w):gH ds l I Q (.exit id) σ w:=h
theorem iP {X:Type} {x y:Code} (l:X->List (Nat×Value)) (I:X->Wd->Prop) (h:FW P r n x (gH σ.ds l I Q) σ w)
    (h': ∀z τ w,I z w->FW P r n y Q (dA (like σ τ) (l z)) w):FW P r n (.seq x y) Q σ w:=by
  refine fC (h.mono λe s w hq=>?_);cases e with
  | normal=>obtain⟨hd,z,hh,hI⟩:=hq;have:=h' z s w hI;rw[Rk hd,zJ hh]at this;exact this
  | _=>exact hq
end

def oO (σ:St):List ResultVar->Option (LV)
 | []=>some []
 | .tmp t::l=>(oO σ l).map (σ t:: ·)
 | _::_=>none
def fH:LV->Value
 | [v]=>v
 | vs=>.tuple vs.toArray
theorem Ux {P:Program} {w:Wd} {σ:St} (g:ResultVar->Sem Value) (hg: ∀t,g (.tmp t)=pure (σ t)): ∀(l:List ResultVar) (vs:LV),oO σ l=some vs->
    (List.mapM g l).run P w=.ok vs w:=by
  intro l
  induction l with
  | nil=>intro vs h;simp[oO]at h;subst h;rfl
  | cons r l ih=>
    intro vs h;cases r with
    | cell a t=>simp[oO]at h
    | tmp t=>
      simp only[oO,zbb]at h;obtain⟨us,hu,rfl⟩:=h;rw[List.mapM_cons,hg];simp[ih us hu]
theorem sO {P:Program} {w:Wd} {fn:Func} {tmps:Array Value} {σ:St} (hσ: ∀i,tmps.getD i undef=σ i) {l:List ResultVar} (hl:fn.results=l.toArray) {vs:LV} (h:oO σ l=some vs):
    (results fn tmps).run P w=.ok (fH vs) w:=by
  unfold results;rw[hl,List.mapM_toArray]
  have:=Ux (P:=P) (w:=w) (σ:=σ) (λ
    | .tmp t=>pure (tmps.getD t undef)
    | .cell a t=>do loadVar t (<-asAddr (tmps.getD a undef))) (λt=>by simp[hσ]) l vs h
  rw[zbk,Sem.run_map];refine(zaw (λr=>(Result.andThen r _).andThen _) this).trans ?_;simp only[zas]
  match vs with
  | []=>simp[fH]
  | [v]=>simp[fH]
  | u::v::us=>simp[fH]

def Ret (R:Value->Wd->Prop):Ending->Wd->Prop:=λe w=>match e with
 | .returned v=>R v w
 | _=>False
def aN (P:Program) (f:FuncId) (args:LV) (w:Wd) (R:Value->Wd->Prop):Prop:=Calls P f args.toArray w (Ret R)
theorem aN.mono {P:Program} {f:FuncId} {args:LV} {w:Wd} {R R':Value->Wd->Prop} (h:aN P f args w R) (hr: ∀v w',R v w'->R' v w'):aN P f args w R':=
 Calls.mono h λe w' he=>by cases e<;>first | exact hr _ _ he | exact he

def Goes:List Deferred->Wd->(Wd->Prop)->Prop
 | [],w,R=>R w
 | d::ds,w,R=>∃D,d.target=.collected D/\w.heap[D]? =some (.deferred (some []))/\Goes ds {w with heap:=w.heap.setIfInBounds D (.deferred none)} R
def Qfn (l:List ResultVar) (R:Value->Wd->Prop):Post:=λe σ w=>match e with
 | .normal | .ret=>∃vs,oO σ l=some vs/\Goes σ.ds w (R (fH vs))
 | _=>False
theorem nG {l:List ResultVar} {R:Value->Wd->Prop} {σ:St} {w:Wd} {vs:LV} (h:oO σ l=some vs:=by simp only[oO,zdf,upd_same,upd_ne,ne_eq,Nat.reduceEqDiff,not_false_eq_true];rfl) (hR:R (fH vs) w) (hd:σ.ds=[]:=by exact rfl):Qfn l R .ret σ w:=⟨vs,h,by rw[hd];exact hR⟩
theorem ZQ {l:List ResultVar} {R:Value->Wd->Prop} {σ:St} {w:Wd} {vs:LV} (h:oO σ l=some vs:=by simp only[oO,zdf,upd_same,upd_ne,ne_eq,Nat.reduceEqDiff,not_false_eq_true];rfl) (hR:R (fH vs) w) (hd:σ.ds=[]:=by exact rfl):Qfn l R .normal σ w:=⟨vs,h,by rw[hd];exact hR⟩
theorem xY {P:Program} {fn:Func} {tmps:Array Value} {R:Ending->Wd->Prop} {v:Value} (hr: ∀w,(results fn tmps).run P w=.ok v w): ∀(ds:List Deferred) (w:Wd),Goes ds w (λw'=>R (.returned v) w')->LeavesInM (fen none) 0 P fn tmps R ds .returning w
 | [],w,h=>⟨v,hr w,h⟩
 | d::ds,w,⟨D,ht,hh,hg⟩=>⟨(λe=>by cases e),.inl ⟨D,_,ht,run_takeDeferred hh,xY hr ds _ hg⟩⟩

def CU:Nat->LV->St
 | _,[]=>und
 | k,v::l=>upd (CU (k+1) l) k v
theorem Jj: ∀(l:LV) (k:Nat),(CU k l).ds=[]
 | [],_=>rfl
 | _::l,k=>Jj l (k+1)
theorem zZ: ∀(l:LV) (k i:Nat),CU k l i=if k<=i then l.toArray.getD (i-k) undef else undef
 | [],k,i=>by simp[CU,und]
 | v::l,k,i=>by
  have ih:=zZ l (k+1) i;show upd (CU (k+1) l) k v i=_
  by_cases h:i=k
  .subst h;simp[upd_same]
  rw[upd_ne _ _ _ _ h,ih]
  by_cases hk:k<=i
  .rw[zac hk,zac oM]
   have :i-k=(i-(k+1))+1:=by omega
   rw[this];simp[zbm]
  rw[zab hk,zab oM]
theorem rZ {P:Program} {f:FuncId} {fn:Func} {c:Code} {args:LV} {w:Wd} {R:Value->Wd->Prop} {n:Nat} {l:List ResultVar}
    (hf:P.funcs[f]? =some fn) (hb:fn.body=some c) (hn:fn.ntmps=n) (hl:fn.results=l.toArray) (Ga:Nat.ble args.length n=true)
    (h:FW P none n c (Qfn l R) (CU 0 args) w):aN P f args w R:=by
  have qQ:args.length<=n:=zbc Ga;refine(callsIn_wide (n:=0)).1 (callsIn_of_wp_marks (F:=fen none) hf hb trivial (Go.wpIn_mono (h _ ⟨?_,(Jj args 0).symm,λi=>?_⟩) ?_))
  . simp[hn];omega
  . rw[zZ]
    simp only[zak,if_true,zfk];simp only[zbm,zee];rw[zfl]
    split
    . simp
    rename_i hge;simp at hge;rw[zcs oM];rw[zef]
    split<;>rfl
  rintro e a' w' ⟨s,hs,hq⟩;cases e with
  | normal=>
    obtain⟨vs,h1,h2⟩:=hq;show LeavesInM _ _ _ _ _ _ _ _ _
    rw[hs.defers];exact xY (λw=>sO hs.get hl h1) _ _ h2
  | ret=>
    obtain⟨vs,h1,h2⟩:=hq;show LeavesInM _ _ _ _ _ _ _ _ _
    rw[hs.defers];exact xY (λw=>sO hs.get hl h1) _ _ h2
  | _=>exact hq.elim
section
variable {P:Program} {f:FuncId} {fn:Func} {c:Code} {w:Wd} {R:Value->Wd->Prop} {n:Nat} {l:List ResultVar} (hf:P.funcs[f]? =some fn) (hb:fn.body=some c) (hn:fn.ntmps=n) (hl:fn.results=l.toArray)
include hf hb hn hl
theorem ab7 (h:FW P none n c (Qfn l R) und w):aN P f [] w R:=rZ hf hb hn hl rfl h
theorem eP {a0:Value} (hk:Nat.ble 1 n=true) (h:FW P none n c (Qfn l R) (upd und 0 a0) w):aN P f [a0] w R:=rZ hf hb hn hl hk h
theorem dS {a0 a1:Value} (hk:Nat.ble 2 n=true) (h:FW P none n c (Qfn l R) (upd (upd und 1 a1) 0 a0) w):aN P f [a0,a1] w R:=rZ hf hb hn hl hk h
theorem tH {a0 a1 a2:Value} (hk:Nat.ble 3 n=true) (h:FW P none n c (Qfn l R) (upd (upd (upd und 2 a2) 1 a1) 0 a0) w):aN P f [a0,a1,a2] w R:=rZ hf hb hn hl hk h
theorem CV {a0 a1 a2 a3:Value} (hk:Nat.ble 4 n=true) (h:FW P none n c (Qfn l R) (upd (upd (upd (upd und 3 a3) 2 a2) 1 a1) 0 a0) w):aN P f [a0,a1,a2,a3] w R:=rZ hf hb hn hl hk h
theorem Rl {a0 a1 a2 a3 a4:Value} (hk:Nat.ble 5 n=true) (h:FW P none n c (Qfn l R) (upd (upd (upd (upd (upd und 4 a4) 3 a3) 2 a2) 1 a1) 0 a0) w):aN P f [a0,a1,a2,a3,a4] w R:=rZ hf hb hn hl hk h
theorem anJ {a0 a1 a2 a3 a4 a5:Value} (hk:Nat.ble 6 n=true) (h:FW P none n c (Qfn l R) (upd (upd (upd (upd (upd (upd und 5 a5) 4 a4) 3 a3) 2 a2) 1 a1) 0 a0) w):aN P f [a0,a1,a2,a3,a4,a5] w R:=rZ hf hb hn hl hk h
end
structure Kept (S:NP) (w w':Wd):Prop where
 os:w'.os=w.os
 tape:w'.tape=w.tape
 output:w'.output=w.output
 size:w.heap.size<=w'.heap.size
 block: ∀k,k<w.heap.size->¬S k->w'.heap[k]? =w.heap[k]?
def noB:NP:=λ_=>False

section
variable {S T:NP} {a b c w w':Wd}
theorem Kept.refl (S:NP) (w:Wd):Kept S w w:=⟨rfl,rfl,rfl,zbf _,λ_ _ _=>rfl⟩
theorem Kept.trans (h:Kept S a b) (k:Kept T b c) (hT: ∀i,T i->S i\/a.heap.size<=i):Kept S a c:=
 ⟨k.os.trans h.os,k.tape.trans h.tape,k.output.trans h.output,zcp h.size k.size,λi hi hS=>by
  rw[k.block i (Nat.lt_of_lt_of_le hi h.size) (λht=>by rcases hT i ht with h1 | h1;exact hS h1;omega),h.block i hi hS]⟩
theorem Kept.mono (h:Kept S w w') (hS: ∀i,S i->T i):Kept T w w':=⟨h.os,h.tape,h.output,h.size,λi hi hT=>h.block i hi λhs=>hT (hS i hs)⟩
theorem Kept.NK (h:Kept S a b) (k:Kept noB b c):Kept S a c:=h.trans k λ_ hf=>hf.elim
theorem Kept.below (h:Kept noB w w'):Below w.heap.size w w':=⟨h.os,h.tape,h.output,h.size,λk hk=>h.block k hk id⟩
theorem Kept.of_below (h:Below w.heap.size w w'):Kept noB w w':=⟨h.os,h.tape,h.output,h.size,λk hk _=>h.block k hk⟩
theorem Kept.anK (h:Kept S a w) (n:Nat):Kept S a {w with drawn:=n}:=⟨h.os,h.tape,h.output,h.size,h.block⟩
theorem Kept.alloc (w:Wd) (o:Obj):Kept noB w (w.alloc o):=Kept.of_below ((Below.refl _ _).alloc (zbf _) o)
theorem Kept.drew (w:Wd):Kept noB w w.drew:=⟨rfl,rfl,rfl,zbf _,λ_ _ _=>rfl⟩
theorem Kept.get (h:Kept S w w') {k:Nat} {o:Obj} (hk:w.heap[k]? =some o) (hS: ¬S k):w'.heap[k]? =some o:=by
 have bX:k<w.heap.size:=by
  rcases zdz k w.heap.size with h1 | h1
  .exact h1
  rw[zdi h1]at hk;cases hk
 rw[h.block k bX hS,hk]
end

structure HP where
 ok:(NP)->Wd->Prop
 loc: ∀{F:NP} {w w':Wd},w.heap.size<=w'.heap.size->(∀b,F b->w'.heap[b]? =w.heap[b]?)->ok F w->ok F w'
 low: ∀{F:NP} {w:Wd},ok F w->∀b,F b->b<w.heap.size
theorem mU {w:Wd} {k:Nat} {o:Obj} (hk:w.heap[k]? =some o):k<w.heap.size:=by
 rcases zdz k w.heap.size with h1 | h1
 .exact h1
 rw[zdi h1]at hk;cases hk
def jI (φ:Prop):HP where
 ok F _:=φ/\∀b,¬F b
 loc _ _ h:=h
 low h b hb:=(h.2 b hb).elim
def emp:HP:=jI True
def obj (b:Nat) (o:Obj):HP where
 ok F w:=(∀x,F x↔x=b)/\w.heap[b]? =some o
 loc _ h gT:=⟨gT.1,by rw[h b ((gT.1 b).2 rfl)];exact gT.2⟩
 low h x hx:=by have:=(h.1 x).1 hx;subst this;exact mU h.2
def blk (b:Nat) (cs:LV) (E:Td):HP:=obj b (.cells cs.toArray E (0,0))
def star (p q:HP):HP where
 ok F w:=∃F1 F2,(∀b,F b↔F1 b\/F2 b)/\(∀b,F1 b->¬F2 b)/\p.ok F1 w/\q.ok F2 w
 loc hs h gT:=by
  obtain⟨F1,F2,hF,hd,h1,h2⟩:=gT;exact⟨F1,F2,hF,hd,p.loc hs (λb hb=>h b ((hF b).2 (.inl hb))) h1,q.loc hs (λb hb=>h b ((hF b).2 (.inr hb))) h2⟩
 low h b hb:=by
  obtain⟨F1,F2,hF,hd,h1,h2⟩:=h
  rcases (hF b).1 hb with h | h
  .exact p.low h1 b h
  exact q.low h2 b h
def exH {α:Type} (p:α->HP):HP where
 ok F w:=∃x,(p x).ok F w
 loc hs h gT:=by obtain⟨x,hx⟩:=gT;exact⟨x,(p x).loc hs h hx⟩
 low h b hb:=by obtain⟨x,hx⟩:=h;exact(p x).low hx b hb
def lC:List HP->HP
 | []=>emp
 | p::l=>star p (lC l)

def Sep (w0:Wd) (S:NP) (rs:List HP) (w:Wd):Prop:=
 Kept S w0 w/\∃F,(lC rs).ok F w/\∀b,F b->S b\/w0.heap.size<=b

def At (rs:List HP) (p:HP) (put:HP->List HP):Prop:=∃l1 l2,rs=l1++p::l2/\∀q,put q=l1++q::l2
section
variable {a b c d e f g h i j k m p:HP} {l:List HP}
theorem At0:At (p::l) p (λq=>q::l):=⟨[],l,rfl,λ_=>rfl⟩
theorem At1:At (a::p::l) p (λq=>a::q::l):=⟨[a],l,rfl,λ_=>rfl⟩
theorem At2:At (a::b::p::l) p (λq=>a::b::q::l):=⟨[a,b],l,rfl,λ_=>rfl⟩
theorem At3:At (a::b::c::p::l) p (λq=>a::b::c::q::l):=⟨[a,b,c],l,rfl,λ_=>rfl⟩
theorem At4:At (a::b::c::d::p::l) p (λq=>a::b::c::d::q::l):=⟨[a,b,c,d],l,rfl,λ_=>rfl⟩
theorem At5:At (a::b::c::d::e::p::l) p (λq=>a::b::c::d::e::q::l):=⟨[a,b,c,d,e],l,rfl,λ_=>rfl⟩
theorem At6:At (a::b::c::d::e::f::p::l) p (λq=>a::b::c::d::e::f::q::l):=⟨[a,b,c,d,e,f],l,rfl,λ_=>rfl⟩
theorem At7:At (a::b::c::d::e::f::g::p::l) p (λq=>a::b::c::d::e::f::g::q::l):=⟨[a,b,c,d,e,f,g],l,rfl,λ_=>rfl⟩
theorem At8:At (a::b::c::d::e::f::g::h::p::l) p (λq=>a::b::c::d::e::f::g::h::q::l):=⟨[a,b,c,d,e,f,g,h],l,rfl,λ_=>rfl⟩
theorem At9:At (a::b::c::d::e::f::g::h::i::p::l) p (λq=>a::b::c::d::e::f::g::h::i::q::l):=⟨[a,b,c,d,e,f,g,h,i],l,rfl,λ_=>rfl⟩
theorem aT {p:Prop} (h:p:=by first | exact At0 | exact At1 | exact At2 | exact At3 | exact At4 | exact At5 | exact At6 | exact At7 | exact At8 | exact At9):p:=h
end

theorem ZR {F:NP} {w:Wd} (h: ∀b,¬F b):emp.ok F w:=⟨trivial,h⟩
theorem CW {l1 l2:List HP} {p:HP}: ∀{F:NP} {w:Wd},(lC (l1++p::l2)).ok F w->
    ∃F1 F2,(∀b,F b↔F1 b\/F2 b)/\(∀b,F1 b->¬F2 b)/\p.ok F1 w/\(lC (l1++l2)).ok F2 w:=by
  induction l1 with
  | nil=>intro F w h;exact h
  | cons q l ih=>
    rintro F w ⟨G1,G2,hF,hd,h1,h2⟩;obtain⟨F1,F2,hG,Lx,hp,hr⟩:=ih h2;refine⟨F1,λb=>G1 b\/F2 b,λb=>?_,λb hb=>?_,hp,G1,F2,λb=>Iff.rfl,λb hb hb2=>hd b hb ((hG b).2 (.inr hb2)),h1,hr⟩
    . rw[hF,hG];constructor
      . rintro(h | h | h)
        . exact .inr (.inl h)
        . exact .inl h
        exact .inr (.inr h)
      rintro(h | h | h)
      . exact .inr (.inl h)
      . exact .inl h
      exact .inr (.inr h)
    rintro(h | h)
    . exact hd b h ((hG b).2 (.inl hb))
    exact Lx b hb h
theorem Gg {l1 l2:List HP} {p:HP}: ∀{F F1 F2:NP} {w:Wd},(∀b,F b↔F1 b\/F2 b)->(∀b,F1 b->¬F2 b)->p.ok F1 w->(lC (l1++l2)).ok F2 w->(lC (l1++p::l2)).ok F w:=by
 induction l1 with
 | nil=>intro F F1 F2 w hF hd hp hr;exact⟨F1,F2,hF,hd,hp,hr⟩
 | cons q l ih=>
  rintro F F1 F2 w hF hd hp ⟨G1,G2,hG,Lx,h1,h2⟩;refine⟨G1,λb=>F1 b\/G2 b,λb=>?_,λb hb=>?_,h1,ih (F1:=F1) (F2:=G2) (λb=>Iff.rfl) (λb hb hb2=>hd b hb ((hG b).2 (.inr hb2))) hp h2⟩
  .rw[hF,hG];constructor
   .rintro(h | h | h)
    .exact .inr (.inl h)
    .exact .inl h
    exact .inr (.inr h)
   rintro(h | h | h)
   .exact .inr (.inl h)
   .exact .inl h
   exact .inr (.inr h)
  rintro(h | h)
  .exact hd b h ((hG b).2 (.inl hb))
  exact Lx b hb h

section
variable {w0 w w':Wd} {S:NP} {rs:List HP}
theorem Sep.kept (h:Sep w0 S rs w):Kept S w0 w:=h.1
theorem Sep.size (h:Sep w0 S rs w):w0.heap.size<=w.heap.size:=h.1.size
theorem Sep.keep (h:Sep w0 S rs w) (hk:Kept noB w w'):Sep w0 S rs w':=by
 obtain⟨h1,F,hF,hS⟩:=h;exact⟨h1.NK hk,F,(lC rs).loc hk.size (λb hb=>hk.block b ((lC rs).low hF b hb) id) hF,hS⟩
theorem Sep.focus {p:HP} {put:HP->List HP} (h:Sep w0 S rs w) (hat:At rs p put):
    ∃F,p.ok F w/\(∀b,F b->S b\/w0.heap.size<=b)/\
      ∀w' F' q,Kept F w w'->q.ok F' w'->(∀b,F' b->F b\/w.heap.size<=b)->Sep w0 S (put q) w':=by
  obtain⟨l1,l2,rfl,nA⟩:=hat;obtain⟨h1,F,hF,hS⟩:=h;obtain⟨F1,F2,G6,hd,hp,hr⟩:=CW hF;refine⟨F1,hp,λb hb=>hS b ((G6 b).2 (.inl hb)),λw' F' q hk hq jw=>?_⟩;rw[nA];have Ng:=(lC (l1++l2)).low hr;refine⟨h1.trans hk λb hb=>hS b ((G6 b).2 (.inl hb)),λb=>F' b\/F2 b,?_,?_⟩
  . refine Gg (F1:=F') (F2:=F2) (λb=>Iff.rfl) (λb hb hb2=>?_) hq ((lC (l1++l2)).loc hk.size (λb hb=>hk.block b (Ng b hb) (λh1=>hd b h1 hb)) hr)
    rcases jw b hb with h | h
    . exact hd b h hb2
    have:=Ng b hb2;omega
  rintro b (hb | hb)
  . rcases jw b hb with h | h
    . exact hS b ((G6 b).2 (.inl h))
    exact .inr (zcp h1.size h)
  exact hS b ((G6 b).2 (.inr hb))
theorem Sep.new {p:HP} {F':NP} (h:Sep w0 S rs w) (hk:Kept noB w w') (hp:p.ok F' w') (hF': ∀b,F' b->w.heap.size<=b):Sep w0 S (p::rs) w':=by
 have h0:=h;obtain⟨h1,F,hF,hS⟩:=h;have Ng:=(lC rs).low hF;refine⟨h1.NK hk,λb=>F' b\/F b,⟨F',F,λb=>Iff.rfl,λb hb hb2=>?_,hp,(lC rs).loc hk.size (λb hb=>hk.block b (Ng b hb) id) hF⟩,?_⟩
 .have:=Ng b hb2;have:=hF' b hb;omega
 rintro b (hb | hb)
 .exact .inr (zcp h0.size (hF' b hb))
 exact hS b hb
theorem Sep.alloc (h:Sep w0 S rs w) (o:Obj):Sep w0 S (obj w.heap.size o::rs) (w.alloc o):=
 h.new (F':=λb=>b=w.heap.size) (Kept.alloc w o) ⟨λ_=>Iff.rfl,heap_alloc_new w o⟩ λb hb=>by rw[hb];exact zbf _
theorem Sep.obj {b:Nat} {o:Obj} {put:HP->List HP} (h:Sep w0 S rs w) (hat:At rs (obj b o) put):w.heap[b]? =some o:=by
 obtain⟨F,hp,_,_⟩:=h.focus hat;exact hp.2
theorem Sep.setObj {b:Nat} {o o':Obj} {put:HP->List HP} (h:Sep w0 S rs w) (hat:At rs (Mw.obj b o) put) (hk:Kept (λx=>x=b) w w') (ho:w'.heap[b]? =some o'):Sep w0 S (put (Mw.obj b o')) w':=by
 obtain⟨F,hp,hS,nA⟩:=h.focus hat;exact nA w' F (Mw.obj b o') (hk.mono λi hi=>(hp.1 i).2 hi) ⟨hp.1,ho⟩ λb hb=>.inl hb
theorem Sep.eF {p:HP} (h:Sep w0 S (p::rs) w):Sep w0 S rs w:=by
 obtain⟨h1,F,⟨F1,F2,hF,hd,hp,hr⟩,hS⟩:=h;exact⟨h1,F2,hr,λb hb=>hS b ((hF b).2 (.inr hb))⟩
theorem Sep.start (rs:List HP) {F:NP} {w:Wd} (h:(lC rs).ok F w):Sep w F rs w:=⟨Kept.refl _ _,F,h,λ_ hb=>.inl hb⟩
theorem Sep.aL (w:Wd):Sep w noB [] w:=⟨Kept.refl _ _,λ_=>False,ZR (λ_=>id),λ_ hb=>hb.elim⟩
theorem Sep.ex0 {α:Type} {p:α->HP} (h:Sep w0 S (exH p::rs) w): ∃x,Sep w0 S (p x::rs) w:=by
 obtain⟨h1,F,⟨F1,F2,hF,hd,⟨x,hp⟩,hr⟩,hS⟩:=h;exact⟨x,h1,F,⟨F1,F2,hF,hd,hp,hr⟩,hS⟩
theorem Sep.dG {p q:HP} (h:Sep w0 S (star p q::rs) w):Sep w0 S (p::q::rs) w:=by
 obtain⟨h1,F,⟨F1,F2,hF,hd,⟨G1,G2,hG,Lx,hp,hq⟩,hr⟩,hS⟩:=h;refine⟨h1,F,⟨G1,λb=>G2 b\/F2 b,λb=>?_,λb hb=>?_,hp,G2,F2,λ_=>Iff.rfl,λb hb hb2=>hd b ((hG b).2 (.inr hb)) hb2,hq,hr⟩,hS⟩
 .rw[hF,hG,or_assoc]
 rintro(h | h)
 .exact Lx b hb h
 exact hd b ((hG b).2 (.inl hb)) h
theorem Sep.tJ {φ:Prop} (h:Sep w0 S (jI φ::rs) w):φ/\Sep w0 S rs w:=by
 have h':=h.eF;obtain⟨h1,F,⟨F1,F2,hF,hd,hp,hr⟩,hS⟩:=h;exact⟨hp.1,h'⟩
theorem Sep.bI {p q:HP} (h:Sep w0 S (p::q::rs) w):Sep w0 S (star p q::rs) w:=by
 obtain⟨h1,F,⟨F1,F2,hF,hd,hp,G1,G2,hG,Lx,hq,hr⟩,hS⟩:=h;refine⟨h1,F,⟨λb=>F1 b\/G1 b,G2,λb=>?_,λb hb=>?_,⟨F1,G1,λ_=>Iff.rfl,λb hb hb2=>hd b hb ((hG b).2 (.inl hb2)),hp,hq⟩,hr⟩,hS⟩
 .rw[hF,hG,or_assoc]
 rcases hb with hb | hb
 .exact λh=>hd b hb ((hG b).2 (.inr h))
 exact Lx b hb
theorem Sep.uW {α:Type} {p:α->HP} (x:α) (h:Sep w0 S (p x::rs) w):Sep w0 S (exH p::rs) w:=by
 obtain⟨h1,F,⟨F1,F2,hF,hd,hp,hr⟩,hS⟩:=h;exact⟨h1,F,⟨F1,F2,hF,hd,⟨x,hp⟩,hr⟩,hS⟩
theorem Sep.jT {φ:Prop} (hφ:φ) (h:Sep w0 S rs w):Sep w0 S (jI φ::rs) w:=by
 obtain⟨h1,F,hr,hS⟩:=h;exact⟨h1,F,⟨λ_=>False,F,λb=>sM,λ_ hb=>hb.elim,⟨hφ,λ_ hb=>hb⟩,hr⟩,hS⟩
theorem Sep.imp {p q:HP} {put:HP->List HP} (h:Sep w0 S rs w) (hat:At rs p put) (hpq: ∀F,p.ok F w->q.ok F w):Sep w0 S (put q) w:=by
 obtain⟨F,hp,hS,nA⟩:=h.focus hat;exact nA w F q (Kept.refl _ _) (hpq F hp) λb hb=>.inl hb
theorem Sep.front {p:HP} {l1 l2:List HP} (h:Sep w0 S (l1++p::l2) w):Sep w0 S (p::(l1++l2)) w:=by
 obtain⟨h1,F,hF,hS⟩:=h;obtain⟨F1,F2,G6,hd,hp,hr⟩:=CW hF;exact⟨h1,F,⟨F1,F2,G6,hd,hp,hr⟩,hS⟩
theorem Sep.aJ {a p:HP} {l:List HP} (h:Sep w0 S (a::p::l) w):Sep w0 S (p::a::l) w:=Sep.front (l1:=[a]) h
theorem Sep.bF {a b p:HP} {l:List HP} (h:Sep w0 S (a::b::p::l) w):Sep w0 S (p::a::b::l) w:=Sep.front (l1:=[a,b]) h
theorem Sep.bN {a b c p:HP} {l:List HP} (h:Sep w0 S (a::b::c::p::l) w):Sep w0 S (p::a::b::c::l) w:=Sep.front (l1:=[a,b,c]) h
theorem Sep.fF {a b c d p:HP} {l:List HP} (h:Sep w0 S (a::b::c::d::p::l) w):Sep w0 S (p::a::b::c::d::l) w:=Sep.front (l1:=[a,b,c,d]) h
theorem Sep.mX {a b c d e p:HP} {l:List HP} (h:Sep w0 S (a::b::c::d::e::p::l) w):Sep w0 S (p::a::b::c::d::e::l) w:=Sep.front (l1:=[a,b,c,d,e]) h
theorem Sep.mM {a b c d e f p:HP} {l:List HP} (h:Sep w0 S (a::b::c::d::e::f::p::l) w):Sep w0 S (p::a::b::c::d::e::f::l) w:=Sep.front (l1:=[a,b,c,d,e,f]) h
end

theorem ZT {p q t:HP} {F:NP} {w:Wd}:(star (star p q) t).ok F w↔(star p (star q t)).ok F w:=by
 constructor
 .rintro⟨F1,F2,hF,hd,⟨G1,G2,hG,Lx,hp,hq⟩,hr⟩
  refine⟨G1,λb=>G2 b\/F2 b,λb=>?_,λb hb=>?_,hp,G2,F2,λ_=>Iff.rfl,λb hb hb2=>hd b ((hG b).2 (.inr hb)) hb2,hq,hr⟩
  .rw[hF,hG,or_assoc]
  rintro(h | h)
  .exact Lx b hb h
  exact hd b ((hG b).2 (.inl hb)) h
 rintro⟨F1,F2,hF,hd,hp,G1,G2,hG,Lx,hq,hr⟩;refine⟨λb=>F1 b\/G1 b,G2,λb=>?_,λb hb=>?_,⟨F1,G1,λ_=>Iff.rfl,λb hb hb2=>hd b hb ((hG b).2 (.inl hb2)),hp,hq⟩,hr⟩
 .rw[hF,hG,or_assoc]
 rcases hb with hb | hb
 .exact λh=>hd b hb ((hG b).2 (.inr h))
 exact Lx b hb
theorem Bl {l rs:List HP}: ∀{F:NP} {w:Wd},(star (lC l) (lC rs)).ok F w↔(lC (l++rs)).ok F w:=by
 induction l with
 | nil=>
  intro F w;constructor
  .rintro⟨F1,F2,hF,hd,⟨_,h1⟩,h2⟩
   have :F=F2:=funext λb=>propext ((hF b).trans ⟨λh=>h.elim (λh=>(h1 b h).elim) id,.inr⟩);rw[this];exact h2
  intro h;exact⟨λ_=>False,F,λb=>sM,λ_ h=>h.elim,⟨trivial,λ_ h=>h⟩,h⟩
 | cons p l ih=>
  intro F w;show(star (star p (lC l)) (lC rs)).ok F w↔(star p (lC (l++rs))).ok F w
  rw[ZT];constructor
  .rintro⟨F1,F2,hF,hd,hp,hr⟩;exact⟨F1,F2,hF,hd,hp,ih.1 hr⟩
  rintro⟨F1,F2,hF,hd,hp,hr⟩;exact⟨F1,F2,hF,hd,hp,ih.2 hr⟩
theorem Sep.parts {w0 w:Wd} {S:NP} {l rs:List HP} (h:Sep w0 S (lC l::rs) w):Sep w0 S (l++rs) w:=by
 obtain⟨h1,F,hF,hS⟩:=h;exact⟨h1,F,Bl.1 hF,hS⟩
theorem Sep.bundle {w0 w:Wd} {S:NP} {l rs:List HP} (h:Sep w0 S (l++rs) w):Sep w0 S (lC l::rs) w:=by
 obtain⟨h1,F,hF,hS⟩:=h;exact⟨h1,F,Bl.2 hF,hS⟩
def Gives (P:Program) (ρ:Od->Value) (op:Op) (ty:Td) (w:Wd) (v:Value) (w':Wd):Prop:=
 ∀dst pos after guard,(execOp ρ ⟨dst,op,ty,pos,after,guard⟩).run P w=.ok (.value v) w'
def Qy (P:Program) (ρ:Od->Value) (op:Op) (ty:Td) (w w':Wd):Prop:=
 ∀dst pos after guard,(execOp ρ ⟨dst,op,ty,pos,after,guard⟩).run P w=.ok .skip w'

section rules
variable {P:Program} {r:Option Nat} {n:Nat} {ops:AO} {Q:Post} {rest:LO} {σ:St} {w w':Wd} {op:Op} {ty:Td} {pos:String} {after:Array Edge}
theorem zK (h:Q .normal σ w):FL P r n ops Q [] σ w:=λ_ ha=>wpListIn_nil ⟨σ,ha,h⟩
theorem Kq {ρ:Od->Value} {o:Oper} {v:Value} (h:(execOp ρ o).run P w=.ok (.value v) w'):(o.semAt r ρ).run P w=.ok (.value v) w':=by
 by_cases hd: ∃c,o.op=.defer c
 .obtain⟨c,hd⟩:=hd
  exfalso;unfold execOp at h;rw[hd]at h;simp only[zbk]at h;cases hr:(resolve ρ c o.type).run P w<;>rw[hr]at h<;>simp[Result.andThen]at h
 rw[Oper.semAt_eq r ρ o λc hc=>hd ⟨c,hc⟩];exact h
theorem ZU {ρ:Od->Value} {o:Oper} (h:(execOp ρ o).run P w=.ok .skip w'):(o.semAt r ρ).run P w=.ok .skip w':=by
 by_cases hd: ∃c,o.op=.defer c
 .obtain⟨c,hd⟩:=hd
  exfalso;unfold execOp at h;rw[hd]at h;simp only[zbk]at h;cases hr:(resolve ρ c o.type).run P w<;>rw[hr]at h<;>simp[Result.andThen]at h
 rw[Oper.semAt_eq r ρ o λc hc=>hd ⟨c,hc⟩];exact h
theorem dU {d:Nat} {v:Value} (hg:Gives P (evF σ) op ty w v w') (hd:Nat.blt d n=true) (h:FL P r n ops Q rest (upd σ d v) w'):
    FL P r n ops Q (⟨some d,op,ty,pos,after,none⟩::rest) σ w:=λa ha=>
  wpListIn_plain rfl λK hK=>by
    refine⟨λ_ _=>trivial,?_⟩;rw[ha.eval,Kq (hg _ _ _ _)];exact hK _ _ (h _ (ha.put (zbc hd) v))
theorem Kt {v:Option Nat} (hg:Qy P (evF σ) op ty w w') (hd:v=none) (h:FL P r n ops Q rest σ w'):
    FL P r n ops Q (⟨v,op,ty,pos,after,none⟩::rest) σ w:=λa ha=>
  wpListIn_plain rfl λK hK=>by
    refine⟨λ_ _=>trivial,?_⟩;rw[ha.eval,ZU (hg _ _ _ _)];subst hd;exact hK _ _ (h _ ha)
theorem akY {dst:Option Nat} {j:Nat} {b:Bool} {t:Nat} (hj:(ops[j]?).bind (λo:Oper=>o.dst)=some t) (hb:σ t=.bool b)
    (h:FL P r n ops Q (⟨dst,op,ty,pos,after,none⟩::rest) σ w):
    FL P r n ops Q (⟨dst,op,ty,pos,after,some (j,b)⟩::rest) σ w:=λa ha=>by
  have h1:=h a ha
  have hw:Region.wanted ⟨dst,op,ty,pos,after,some (j,b)⟩ (yielded ops a.tmps)=true:=by
    simp[Region.wanted,ha.NI ops hj hb]
  unfold wpListIn at h1 ⊢;rw[zac hw];rw[zac (by simp[Region.wanted])]at h1;exact h1
theorem alK {dst:Option Nat} {j:Nat} {b:Bool} {t:Nat} (hj:(ops[j]?).bind (λo:Oper=>o.dst)=some t) (hb:σ t=.bool (!b)) (hd:Rj n dst=true)
    (h:FL P r n ops Q rest (uV σ dst undef) w):
    FL P r n ops Q (⟨dst,op,ty,pos,after,some (j,b)⟩::rest) σ w:=λa ha=>by
  have h1:=h _ (ha.Qx hd undef)
  have hw:Region.wanted ⟨dst,op,ty,pos,after,some (j,b)⟩ (yielded ops a.tmps)=false:=by
    simp[Region.wanted,ha.NI ops hj hb]
  unfold wpListIn;rw[zab (by simp[hw])];exact⟨λ_ _=>trivial,h1⟩
theorem iN {t:Nat} {b:Bool} {l:LO} (hb:σ t=.bool b) (h1:b=true->FL P r n ops Q l (upd σ t (.bool true)) w) (h0:b=false->FL P r n ops Q l (upd σ t (.bool false)) w):FL P r n ops Q l σ w:=by
 cases b
 .have:=h0 rfl;rw[<-hb,xX]at this;exact this
 have:=h1 rfl;rw[<-hb,xX]at this;exact this
class bC (P:Program) (f:FuncId):Prop where
 run: ∀args w,(callFunc f args).run P w=.ok (.enter f args) w:=by intro _ _;kernel_rfl
theorem aS {d:Nat} {f:FuncId} {xs:List Od} {ats:Array Td} {vals:LV} {R:Value->Wd->Prop} [he:bC P f] (hc:aN P f vals w R) (hv:xs.map (evF σ)=vals) (hd:Nat.blt d n=true)
    (h: ∀v w',R v w'->FL P r n ops Q rest (upd σ d v) w'):
    FL P r n ops Q (⟨some d,.call {callee:=.value (.func f),args:=xs.toArray,argTypes:=ats},ty,pos,after,none⟩::rest) σ w:=λa ha=>
  wpListIn_plain rfl λK hK=>by
    refine⟨λ_ _=>trivial,?_⟩;rw[Oper.semAt_eq _ _ _ (λ_ h=>by cases h),execOp_call_go,he.run];have e:(#[]++xs.toArray.map a.eval++ #[]:Array Value)=vals.toArray:=by rw[ha.eval];simp[hv]
    rw[e,Oper.uponIn_enter];refine⟨(λh=>by cases h),uJ r (Calls.mono hc λe w'' hr=>?_)⟩;cases e with
    | returned v=>exact hK _ _ (h v w'' hr _ (ha.put (zbc hd) v))
    | _=>exact hr.elim
theorem afO {c:Od} {x y:Code} {p:Prop} [Decidable p] (hc:evF σ c=.bool (decide p)) (ht:p->FW P r n x Q σ w) (hf: ¬p->FW P r n y Q σ w):FW P r n (.cond c x y) Q σ w:=
 Nk hc (λh=>ht (zba h)) (λh=>hf (of_decide_eq_false h))
end rules

section gives
variable {P:Program} {ρ:Od->Value} {ty:Td} {w w':Wd} {x y z:Od}
theorem Gives.move {v:Value} (h:ρ x=v):Gives P ρ (.move x) ty w v w:=λ_ _ _ _=>by subst h;rfl
theorem Gives.assign {v:Value} (h:ρ x=v):Gives P ρ (.assign x) ty w v w:=λ_ _ _ _=>by subst h;rfl
theorem Gives.pick {b:Bool} {u v:Value} (hc:ρ z=.bool b) (hx:ρ x=u) (hy:ρ y=v):Gives P ρ (.pick z x y) ty w (if b then u else v) w:=λ_ _ _ _=>by
 simp only[execOp,hc,hx,hy];cases b<;>rfl
theorem Gives.anL {v:Value} (hc:ρ z=.bool true) (hx:ρ x=v):Gives P ρ (.pick z x y) ty w v w:=λ_ _ _ _=>by subst hx;simp only[execOp,hc];rfl
theorem Gives.akZ {v:Value} (hc:ρ z=.bool false) (hy:ρ y=v):Gives P ρ (.pick z x y) ty w v w:=λ_ _ _ _=>by subst hy;simp only[execOp,hc];rfl
theorem Gives.bin {op:BinOp} {T U:Td} {a b v:Value} (hx:ρ x=a) (hy:ρ y=b) (hg: ∀x y,(eqGuard op T x y a b).run P w=.ok () w) (hr:(binOp op T a b).run P w=.ok v w):Gives P ρ (.binOp op T x y U) ty w v w:=λ_ _ _ _=>by
 simp only[execOp,hx,hy,zbk,hg,hr,zas,zbn]
section ints
variable {T U:Td} {k:IntKind} {a b:Int}
theorem Gives.add (hx:ρ x=.int k a) (hy:ρ y=.int k b):Gives P ρ (.binOp .add T x y U) ty w (.int k (k.wrap (a+b))) w:=.bin hx hy (λ_ _=>rfl) (by rw[binOp_add];rfl)
theorem Gives.sub (hx:ρ x=.int k a) (hy:ρ y=.int k b):Gives P ρ (.binOp .sub T x y U) ty w (.int k (k.wrap (a-b))) w:=.bin hx hy (λ_ _=>rfl) (by rw[binOp_sub];rfl)
theorem Gives.mul (hx:ρ x=.int k a) (hy:ρ y=.int k b):Gives P ρ (.binOp .mul T x y U) ty w (.int k (k.wrap (a*b))) w:=.bin hx hy (λ_ _=>rfl) (by rw[binOp_mul];rfl)
theorem Gives.M5 {c:Int} (hx:ρ x=.int .i64 a) (hy:ρ y=.int .i64 b) (he:a+b=c) (h: -9223372036854775808<=c/\c<=9223372036854775807):Gives P ρ (.binOp .add T x y U) ty w (.int .i64 c) w:=by
 have:=Gives.add (P:=P) (ty:=ty) (w:=w) (T:=T) (U:=U) hx hy;rw[he,IntWalk.i64_in _ h]at this;exact this
theorem Gives.afP {c:Int} (hx:ρ x=.int .i64 a) (hy:ρ y=.int .i64 b) (he:a-b=c) (h: -9223372036854775808<=c/\c<=9223372036854775807):Gives P ρ (.binOp .sub T x y U) ty w (.int .i64 c) w:=by
 have:=Gives.sub (P:=P) (ty:=ty) (w:=w) (T:=T) (U:=U) hx hy;rw[he,IntWalk.i64_in _ h]at this;exact this
theorem Gives.alL {c:Int} (hx:ρ x=.int .i64 a) (hy:ρ y=.int .i64 b) (he:a*b=c) (h: -9223372036854775808<=c/\c<=9223372036854775807):Gives P ρ (.binOp .mul T x y U) ty w (.int .i64 c) w:=by
 have:=Gives.mul (P:=P) (ty:=ty) (w:=w) (T:=T) (U:=U) hx hy;rw[he,IntWalk.i64_in _ h]at this;exact this
theorem Gives.quo (hx:ρ x=.int k a) (hy:ρ y=.int k b) (h0:b≠0):Gives P ρ (.binOp .quo T x y U) ty w (.int k (k.wrap (a.tdiv b))) w:=.bin hx hy (λ_ _=>rfl) (by rw[binOp_quo,Op.intDiv,zab h0];rfl)
theorem Gives.rem (hx:ρ x=.int k a) (hy:ρ y=.int k b) (h0:b≠0):Gives P ρ (.binOp .rem T x y U) ty w (.int k (a.tmod b)) w:=.bin hx hy (λ_ _=>rfl) (by rw[binOp_rem,Op.intDiv,zab h0];rfl)
theorem Gives.eql (hx:ρ x=.int k a) (hy:ρ y=.int k b):Gives P ρ (.binOp .eql T x y U) ty w (.bool (decide (a=b))) w:=.bin hx hy (λ_ _=>by rw[eqGuard_at_int];rfl) (by rw[binOp_eql];rfl)
theorem Gives.neq (hx:ρ x=.int k a) (hy:ρ y=.int k b):Gives P ρ (.binOp .neq T x y U) ty w (.bool (decide (a≠b))) w:=.bin hx hy (λ_ _=>by rw[eqGuard_at_int];rfl) (by rw[binOp_neq,show(a !=b)=decide (a≠b)from by rw[decide_not];rfl];rfl)
theorem Gives.lss (hx:ρ x=.int k a) (hy:ρ y=.int k b):Gives P ρ (.binOp .lss T x y U) ty w (.bool (decide (a<b))) w:=.bin hx hy (λ_ _=>rfl) (by rw[binOp_lss];rfl)
theorem Gives.leq (hx:ρ x=.int k a) (hy:ρ y=.int k b):Gives P ρ (.binOp .leq T x y U) ty w (.bool (decide (a<=b))) w:=.bin hx hy (λ_ _=>rfl) (by rw[binOp_leq];rfl)
theorem Gives.gtr (hx:ρ x=.int k a) (hy:ρ y=.int k b):Gives P ρ (.binOp .gtr T x y U) ty w (.bool (decide (b<a))) w:=.bin hx hy (λ_ _=>rfl) (by rw[binOp_gtr];rfl)
theorem Gives.geq (hx:ρ x=.int k a) (hy:ρ y=.int k b):Gives P ρ (.binOp .geq T x y U) ty w (.bool (decide (b<=a))) w:=.bin hx hy (λ_ _=>rfl) (by rw[binOp_geq];rfl)
theorem Gives.shl {yk:IntKind} (hx:ρ x=.int k a) (hy:ρ y=.int yk b) (h0:0<=b):Gives P ρ (.binOp .shl T x y U) ty w (.int k (k.wrap (a*2^(min b.toNat k.bits)))) w:=.bin hx hy (λ_ _=>rfl) (by rw[binOp_shl,Op.shift,zab oM];rfl)
theorem Gives.shr {yk:IntKind} (hx:ρ x=.int k a) (hy:ρ y=.int yk b) (h0:0<=b):Gives P ρ (.binOp .shr T x y U) ty w (.int k (a.fdiv (2^(min b.toNat k.bits)))) w:=.bin hx hy (λ_ _=>rfl) (by rw[binOp_shr,Op.shift,zab oM];rfl)
theorem Gives.and (hx:ρ x=.int k a) (hy:ρ y=.int k b):Gives P ρ (.binOp .and T x y U) ty w (.int k (bits .and k a b)) w:=.bin hx hy (λ_ _=>rfl) (by rw[binOp_and];rfl)
theorem Gives.or (hx:ρ x=.int k a) (hy:ρ y=.int k b):Gives P ρ (.binOp .or T x y U) ty w (.int k (bits .or k a b)) w:=.bin hx hy (λ_ _=>rfl) (by rw[binOp_or];rfl)
theorem Gives.xor (hx:ρ x=.int k a) (hy:ρ y=.int k b):Gives P ρ (.binOp .xor T x y U) ty w (.int k (bits .xor k a b)) w:=.bin hx hy (λ_ _=>rfl) (by rw[binOp_xor];rfl)
end ints
class ZV (P:Program) (t:Td):Prop where
 und:P.underlying t=some .bool:=by kernel_rfl
theorem Gives.aqd {T U:Td} [h:ZV P T] {a b:Bool} (hx:ρ x=.bool a) (hy:ρ y=.bool b):Gives P ρ (.binOp .eql T x y U) ty w (.bool (a==b)) w:=.bin hx hy (λ_ _=>by rw[eqGuard_at_bool];rfl) (run_eql_bool _ _ _ _ h.und)
theorem Gives.aqe {T U:Td} [h:ZV P T] {a b:Bool} (hx:ρ x=.bool a) (hy:ρ y=.bool b):Gives P ρ (.binOp .neq T x y U) ty w (.bool (!(a==b))) w:=.bin hx hy (λ_ _=>by rw[eqGuard_at_bool];rfl) (run_neq_bool _ _ _ _ h.und)
theorem Gives.aqf {T U:Td} {a b:ByteArray} (hx:ρ x=.string a) (hy:ρ y=.string b):Gives P ρ (.binOp .eql T x y U) ty w (.bool (a.toList==b.toList)) w:=.bin hx hy (λ_ _=>by rw[eqGuard_at_string];rfl) rfl
theorem Gives.aqg {T U:Td} {a b:ByteArray} (hx:ρ x=.string a) (hy:ρ y=.string b):Gives P ρ (.binOp .neq T x y U) ty w (.bool (!(a.toList==b.toList))) w:=.bin hx hy (λ_ _=>by rw[eqGuard_at_string];rfl) rfl
theorem Gives.not {b:Bool} {T:Td} (hx:ρ x=.bool b):Gives P ρ (.unOp .not T x) ty w (.bool (!b)) w:=λ_ _ _ _=>by simp only[execOp,hx];rfl
theorem Gives.notP {p:Prop} [Decidable p] {T:Td} (hx:ρ x=.bool (decide p)):Gives P ρ (.unOp .not T x) ty w (.bool (decide (¬p))) w:=by
 have:=Gives.not (P:=P) (ty:=ty) (w:=w) (T:=T) hx;rw[show(!decide p)=decide (¬p)from sM]at this;exact this
theorem Gives.neg {k:IntKind} {a:Int} {T:Td} (hx:ρ x=.int k a):Gives P ρ (.unOp .neg T x) ty w (.int k (k.wrap (0-a))) w:=λ_ _ _ _=>by simp only[execOp,hx];rfl
theorem Gives.nilCheck {a:Addr} (hx:ρ x=.pointer (some a)):Gives P ρ (.nilCheck x) ty w (.pointer (some a)) w:=λ_ _ _ _=>by simp only[execOp,hx];rfl
theorem Gives.anM {s t:Td} {k j:IntKind} {a:Int} (hs:(P.underlying s).isSome=true) (ht:P.underlying t=some (.int k)) (hx:ρ x=.int j a):Gives P ρ (.convert s t x) ty w (.int k (k.wrap a)) w:=λ_ _ _ _=>by
 obtain⟨d,hd⟩:=zeu.1 hs;simp[execOp,hx,convert,run_underlying hd,run_underlying ht,Conv.intToInt]
class oq (P:Program) (t:Td):Prop where
 und: ∃e,P.underlying t=some (.pointer e)
theorem Fh (d:Nat) {T e:Td} (he:P.underlying T=some (.pointer e)) (a:OA):(Op.equalIn (d+1) T (.pointer a) (.pointer none)).run P w=.ok a.isNone w:=by
 cases a<;>simp[Op.equalIn,run_underlying he]
theorem ze {T:Td} [h:oq P T] (a:OA):(Op.equal T (.pointer a) (.pointer none)).run P w=.ok a.isNone w:=by
 obtain⟨e,he⟩:=h.und;exact Fh 9999 he a
theorem Gives.alM {T U:Td} [oq P T] {a:OA} (hx:ρ x=.pointer a) (hy:ρ y=.pointer none):Gives P ρ (.binOp .eql T x y U) ty w (.bool a.isNone) w:=
 .bin hx hy (λ_ _=>by rw[eqGuard_at_pointer];rfl) (by simp[binOp,ze])
theorem Gives.alN {T U:Td} [oq P T] {a:OA} (hx:ρ x=.pointer a) (hy:ρ y=.pointer none):Gives P ρ (.binOp .neq T x y U) ty w (.bool (!a.isNone)) w:=
 .bin hx hy (λ_ _=>by rw[eqGuard_at_pointer];rfl) (by simp[binOp,ze])
class cK (P:Program) (s f:Nat) (k:outParam Nat):Prop where
 run: ∀a w,(Instr.fieldAt s (.pointer (some a)) f).run P w=.ok (.pointer (some (a.add k))) w:=by intro _ _;kernel_rfl
theorem Gives.ou {s f k b:Nat} [h:cK P s f k] (hx:ρ x=.pointer (some ⟨b,0,none⟩)):Gives P ρ (.fieldAddr s x f) ty w (.pointer (some ⟨b,k,none⟩)) w:=λ_ _ _ _=>by
 simp only[execOp,hx,zbk,h.run,zas,zbn,Addr.add_lit,zds]
theorem Gives.field {s f k b o:Nat} [h:cK P s f k] (hx:ρ x=.pointer (some ⟨b,o,none⟩)):Gives P ρ (.fieldAddr s x f) ty w (.pointer (some ⟨b,o+k,none⟩)) w:=λ_ _ _ _=>by
 simp only[execOp,hx,zbk,h.run,zas,zbn,Addr.add_lit]
class OneCell (P:Program) (t:Td):Prop where
 agg: ∀w,(isAgg t).run P w=.ok false w:=by intro _;kernel_rfl
 size: ∀w,(sizeOf t).run P w=.ok 1 w:=by intro _;kernel_rfl
class Agg (P:Program) (t:Td) (k:outParam Nat):Prop where
 agg: ∀w,(isAgg t).run P w=.ok true w:=by intro _;kernel_rfl
 size: ∀w,(sizeOf t).run P w=.ok k w:=by intro _;kernel_rfl
class Zero (P:Program) (t:Td) (z:outParam Value):Prop where
 run: ∀w,(zeroValue t).run P w=.ok z w:=by intro _;kernel_rfl
class dD (P:Program) (t:Td) (e:outParam Td):Prop where
 und:P.underlying t=some (.slice e):=by kernel_rfl
class mO (P:Program) (t:Td) (m:outParam Nat) (e:outParam Td):Prop where
 und:P.underlying t=some (.array m e):=by kernel_rfl
class IsMap (P:Program) (t:Td) (k e:outParam Td):Prop where
 und:P.underlying t=some (.map k e):=by kernel_rfl
class lF (P:Program) (t:Td) (k:outParam IntKind):Prop where
 und:P.underlying t=some (.int k):=by kernel_rfl
class nZ (P:Program) (t:Td):Prop where
 und:P.underlying t=some .string:=by kernel_rfl
class Cells (P:Program) (t:Td) (k b:outParam Nat):Prop where
 size:(P.info? t).map (λi=>(i.size,i.bytes))=some (k,b):=by kernel_rfl
theorem mY {b:Nat} {cs:LV} {E:Td} (h:w.heap[b]? =some (.cells cs.toArray E (0,0))) (i:Nat):w.cell? ⟨b,i,none⟩=cs[i]? :=by
 rw[cell_of_row w b i _ _ _ h];simp
theorem Gives.xZ {T b o:Nat} [h1:OneCell P T] {cs:LV} {E:Td} {v:Value} (hx:ρ x=.pointer (some ⟨b,o,none⟩)) (hb:w.heap[b]? =some (.cells cs.toArray E (0,0))) (hv:cs[o]? =some v):Gives P ρ (.load T x) ty w v w:=λ_ _ _ _=>by
 simp[execOp,hx,Instr.loadAt,Instr.sureAddr,loadVar,h1.agg,mY hb,hv]
theorem zf {b o k:Nat} {cs:LV} {E:Td} (hb:w.heap[b]? =some (.cells cs.toArray E (0,0))) {us:LV} (hu:(cs.drop o).take k=us) (hk:us.length=k):
    (loadCells ⟨b,o,none⟩ k).run P w=.ok us.toArray w:=by
  have:=run_loadCells_list (P:=P) w ⟨b,o,none⟩ us (λj v hj=>by
    rw[Addr.add_lit,mY hb];rw[<-hu,zcn]at hj
    split at hj
    . rw[zct]at hj;exact hj
    cases hj)
  rw[hk]at this;exact this
theorem Gives.NM {T b o k:Nat} [h1:Agg P T k] {cs:LV} {E:Td} {us:LV} (hx:ρ x=.pointer (some ⟨b,o,none⟩)) (hb:w.heap[b]? =some (.cells cs.toArray E (0,0))) (hu:(cs.drop o).take k=us) (hk:us.length=k):Gives P ρ (.load T x) ty w (.agg us.toArray) w:=λ_ _ _ _=>by
 simp[execOp,hx,Instr.loadAt,Instr.sureAddr,loadVar,h1.agg,h1.size,zf hb hu hk]
end gives
end Go.Mw
