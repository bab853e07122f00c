/-
 Names,walked:the library's Trim at a set of bytes;the program's IsName.
-/
import Derived.Test.YtbfjonalkaophaaGreatDoorNk17
set_option linter.all false
set_option maxRecDepth 4000
namespace Go.Proofs.Mw
open Go.Lib Go.Proofs.Tryz
attribute [local irreducible] FW FL FG FGn jX lg gD l7 Qfn ah
def nameSet:L8:=[97,98,99,100,101,102,103,104,105,106,107,108,109,110,111,112,113,114,115,116,117,118,119,120,121,122,48,49,50,51,52,53,54,55,56,57,95]
def Wn (c:UInt8):nameSet.contains c=nR c:=by
 have key: ∀n:Fin 256,nameSet.contains (UInt8.ofNat n.val)=nR (UInt8.ofNat n.val):=by decide+kernel
 have:=key ⟨c.toNat,c.toNat_lt⟩;simpa using this
def dropWhile_nil {k:Type} {p:k->Bool}: ∀{l:List k},l.dropWhile p=[]↔∀x∈l,p x=true
 | []=>sM
 | x::l=>by
  have i:=dropWhile_nil (p:=p) (l:=l)
  by_cases h:p x=true
  .rw[List.dropWhile_cons_of_pos h,i]
   simp[h]
  rw[List.dropWhile_cons_of_neg h];simp[h]
def acu (r:Nat):Bool:=decide ((r<97\/122<r)/\(r<48\/57<r)/\r≠95)
def acv (c:UInt8):nR c=true->c.toNat<128/\acu c.toNat=false:=by
 intro h;unfold nR R4 uh at h;simp only[Bool.or_eq_true,decide_eq_true_eq]at h;have k:c=95->c.toNat=95:=λe=>by rw[e];rfl
 have S:(97<=c.toNat/\c.toNat<=122)\/c.toNat=95\/(48<=c.toNat/\c.toNat<=57):=by
  rcases h with(h | h) | h
  .exact .inl h
  .exact .inr (.inl (k h))
  exact .inr (.inr h)
 exact⟨oM,zam oM⟩
variable {w:Wd}
def ajw (r:Nat):aX prog 88 [I32 r] w λv d=>v=.bool (acu r)/\w=d:=by
 unfold acu;refine dL func88 ?_;refine Sz (λh=>?_) (λh=>?_)
 .refine Sz (λS=>?_) (λS=>?_)
  .refine V7 ?_
   exact⟨by first | exact zay Value.bool (Eq.symm (zam oM)) | exact zay Value.bool (Eq.symm (zau oM)) | exact zay Value.bool (zbg.2 oM),rfl⟩
  refine Sz (λk=>?_) (λk=>?_)
  .refine V4 ?_
   exact⟨by first | exact zay Value.bool (Eq.symm (zam oM)) | exact zay Value.bool (Eq.symm (zau oM)) | exact zay Value.bool (zbg.2 oM),rfl⟩
  refine V2 ?_;exact⟨by first | exact zay Value.bool (Eq.symm (zam oM)) | exact zay Value.bool (Eq.symm (zau oM)) | exact zay Value.bool (zbg.2 oM),rfl⟩
 refine Sz (λa=>?_) (λa=>?_)
 .refine Sz (λb=>?_) (λb=>?_)
  .refine V7 ?_
   exact⟨by first | exact zay Value.bool (Eq.symm (zam oM)) | exact zay Value.bool (Eq.symm (zau oM)) | exact zay Value.bool (zbg.2 oM),rfl⟩
  refine Sz (λc=>?_) (λc=>?_)
  .refine V4 ?_
   exact⟨by first | exact zay Value.bool (Eq.symm (zam oM)) | exact zay Value.bool (Eq.symm (zau oM)) | exact zay Value.bool (zbg.2 oM),rfl⟩
  refine V2 ?_;exact⟨by first | exact zay Value.bool (Eq.symm (zam oM)) | exact zay Value.bool (Eq.symm (zau oM)) | exact zay Value.bool (zbg.2 oM),rfl⟩
 refine V4 ?_;exact⟨by first | exact zay Value.bool (Eq.symm (zam oM)) | exact zay Value.bool (Eq.symm (zau oM)) | exact zay Value.bool (zbg.2 oM),rfl⟩
variable {b:Nat}
def PY {p:Bool} (c:UInt8) (h:w.cell? ⟨b,c.toNat,none⟩=some (.bool p)):aX prog 224 [aC b,.int .u8 c.toNat] w λv k=>v=.bool p/\w=k:=
 lN (Tryz.asciiSet_contains b c p w h)
def Wo {p:UInt8->Bool} (s:L8) (k: ∀c:UInt8,w.cell? ⟨b,c.toNat,none⟩=some (.bool (p c))):Rk prog 142 [str s,aC b] w (str (s.dropWhile p)):=by
 have H:=Sep.aI w;refine dn func142 ?_;refine V1 ?_;refine aM (λt:L8=>[(0,str t),(1,aC b)]) (λt m=>t.dropWhile p=s.dropWhile p/\Sep w noB [] m) (λt _=>t.length) s tR ⟨rfl,H⟩ (λt o n g=>?_);obtain⟨f,S⟩:=g;refine Lp ?_;refine Cz (λd=>?_) (λd=>?_)
 .obtain⟨c,r,rfl⟩: ∃c r,t=c::r:=zfj oM
  refine V2 ?_;refine Vv (ah.zw (l:=c::r) (i:=0) rfl rfl sM) ?_;refine fF (PY c (S.au.cell (k c) id)) (h:=?_);refine Vv (ah.not rfl) (Qn ?_);refine Cd rfl (λa=>?_) (λa=>?_)
  .have e:p c=false:=by simpa using a
   refine V2 ?_;exact⟨by rw[<-f,List.dropWhile_cons_of_neg (by rw[e];decide)];rfl,S.au⟩
  have e:p c=true:=by simpa using a
  refine V1 ?_;refine Vv (ah.qd (l:=c::r) (i:=1) rfl rfl sM) ?_;refine V1 ?_;exact ak r tR ⟨by rw[<-f,List.dropWhile_cons_of_pos e],S⟩ sM
 have j:t=[]:=zbf oM;subst j;refine V2 ?_;exact⟨by rw[<-f];rfl,S.au⟩
def Te {p:UInt8->Bool} (s:L8) (g: ∀c:UInt8,w.cell? ⟨b,c.toNat,none⟩=some (.bool (p c))) (G:s.length<=1000000):aX prog 143 [str s,aC b] w λv y=>(∃n,v=str (s.take n)/\n<=s.length/\(∀(j:Nat) c,n<=j->s[j]? =some c->p c=true)/\∀m,n=m+1->∃c,s[m]? =some c/\p c=false)/\aS noB w y:=by
 have H:=Sep.aI w;refine dn func143 ?_;refine V1 ?_;refine aM (λn:Nat=>[(0,str (s.take n)),(1,aC b)]) (λn y=>(n<=s.length/\∀(j:Nat) c,n<=j->s[j]? =some c->p c=true)/\Sep w noB [] y) (λn _=>n) s.length ⟨by rw[zbo];rfl,rfl,trivial⟩ ⟨⟨zbk _,λj c C a=>zas (fP a) oM⟩,H⟩ (λn L K A=>?_);obtain⟨⟨z,S⟩,o⟩:=A;have E:(s.take n).length=n:=by rw[zah];omega
 refine Lp ?_;refine Cz (λr=>?_) (λr=>?_)
 .obtain⟨m,rfl⟩: ∃m,n=m+1:=⟨n-1,oM⟩
  obtain⟨c,a⟩:=aN (l:=s) (i:=m) oM;have t:(s.take (m+1)).getD m 0=c:=jP (by rw[zcq,zac oM];exact a);have x:(s.take (m+1)).take m=s.take m:=by rw[List.take_take,zcf oM]
  refine V4 ?_;refine Vc (m:Int) ?_;refine Vv (ah.zw (i:=m) rfl rfl oM) ?_;rw[t];refine fF (PY c (o.au.cell (g c) id)) (h:=?_);refine Vv (ah.not rfl) (Qn ?_);refine Cd rfl (λq=>?_) (λq=>?_)
  .have u:p c=false:=by simpa using q
   refine V2 ?_;exact⟨⟨m+1,rfl,z,S,λk F=>⟨c,by rw[show k=m from oM];exact a,u⟩⟩,o.au⟩
  have u:p c=true:=by simpa using q
  refine V3 ?_;refine Vc (m:Int) ?_;refine Vv (ah.qP (i:=m) rfl rfl oM) ?_;rw[x];refine V1 ?_;exact ak m tR ⟨⟨oM,λj d C f=>by
  by_cases e:j=m
  .subst e;rw[a]at f;injection f with f;rw[<-f];exact u
  exact S j d oM f⟩,o⟩ oM
 have D:n=0:=oM;refine V2 ?_;exact⟨⟨n,rfl,z,S,λm J=>oM⟩,o.au⟩
def YQ (l:L8) (a:l.length<=1000) (h: ∀c∈l,c.toNat<128):Rk prog 141 [str l] w (.tuple #[.agg (setCells l),.bool true]):=
 Calls.mono (Tryz.strings_makeASCIISet (λ_=>kR) ⟨l.toArray⟩ w (by show l.toArray.size<_;rw[zfu];omega) λj b k=>h b (zag k)) λe d S=>by
  obtain⟨rfl,rfl⟩:=S;exact⟨rfl,aS.alloc _ _⟩
def ahB (s:L8) (n:s≠[]) (G:s.length<=1000000):aX prog 86 [str s,str nameSet] w λv L=>(∃t,v=str t/\(t=[]↔s.all nR=true))/\aS noB w L:=by
 have H:=Sep.aI w;have E:nameSet.length=37:=rfl;have S:(setCells nameSet).toList.length=256:=by rw[zgg,setCells_size]
 have g: ∀u∈(setCells nameSet).toList,u.oneCell'=true:=λu J=>by
  have:=setCells_one nameSet;rw[Array.all_eq_true_iff_forall_mem]at this;exact this u (by simpa using J)
 refine dn func86 ?_;refine Sz (λd=>?_) (λd=>?_)
 .exact zas d n
 refine Cz (λq=>?_) (λq=>?_)
 .exact zas q dC
 refine Sz (λx=>?_) (λx=>?_)
 .exact zas x dC
 refine Kz (YQ nameSet dC dC) (λV z P=>?_);refine V3 ?_;refine MR z (cs:=List.replicate 256 (.bool false)) (h:=λD W A Q=>?_);refine Qb A (us:=(setCells nameSet).toList) (cs':=(setCells nameSet).toList) rfl (by exact rfl) S g At0 (by rw[S];decide) (by rw[S];simp) (h:=λM o=>?_)
 have k: ∀c:UInt8,M.cell? ⟨D,c.toNat,none⟩=some (.bool (nR c)):=λc=>by
  have F:=o.obj At0;have:=setCells_at nameSet c;rw[Wn]at this;rw[World.cell?,F];simpa using this
 refine O2 ?_;refine Qn (Cd rfl (λr=>?_) (λr=>?_))
 .refine V1 ?_
  refine aO (Te (p:=nR) s k G) rfl rfl (λT X K=>?_);obtain⟨⟨m,rfl,O,a,l⟩,b⟩:=K;have N:=o.aK b;refine Kz (Wo (p:=nR) (s.take m) λc=>b.cell (k c) id) (λY C R=>?_);refine V1 ?_;exact⟨⟨_,rfl,by
  rw[dropWhile_nil,zaz];constructor
  .intro h c f
   obtain⟨j,y⟩:=zdf f
   by_cases e:m<=j
   .exact a j c e y
   exact h c (zag (i:=j) (by rw[zcq,zac oM];exact y))
  intro h c f;exact h c (zcj f)⟩,C.au⟩
 exact aB r
def Wp {p:Nat->Bool} {l:L8} (h: ∀c∈l,c.toNat<128/\p c.toNat=false): ∀f pos:Nat,Lib.idxFuncFrom p true ⟨l.toArray⟩ f pos= -1
 | 0,_=>rfl
 | f+1,pos=>by
  unfold Lib.idxFuncFrom
  by_cases S:pos<(⟨l.toArray⟩:ByteArray).size
  .have k:pos<l.length:=by rw[Mw.size_mk]at S;exact S
   obtain⟨a,b⟩:=h l[pos] (zgd k)
   have e:Utf8.decode ⟨l.toArray⟩ pos=(l[pos].toNat,1):=by
    rw[<-Lib.decodeL_drop];show Lib.decodeL (l.drop pos)=_
    rw[zbn k,Lib.decodeL_ascii _ _ a]
   rw[zac S,e,zab (by rw[b];decide)];exact Wp h f _
  rw[zab S]
def MK (s:L8) (h:s.all nR=true):Rk prog 87 [str s,.func (.func 88) #[] #[]] w (.bool false):=by
 have a:PredAt prog 88 #[] encR acu w:=λW r _=>Calls.mono (ajw (w:=W) r) λe b k=>by
  cases e with
  | returned v=>obtain⟨rfl,rfl⟩:=k;exact⟨rfl,0,rfl⟩
  | _=>exact k.elim
 have:=rD (Tryz.strings_ContainsFunc 88 #[] (qB.run (P:=prog) (self:=eT)) acu ⟨s.toArray⟩ w a)
 have e:decide (0<=Lib.idxFunc acu true ⟨s.toArray⟩)=false:=by
  unfold Lib.idxFunc;rw[Wp λc S=>acv c (zaz.1 h c S)]
  decide
 rw[e]at this;exact this
def PZ (s:L8):Rk prog 49 [str s] w (.bool (fM s)):=by
 have H:=Sep.aI w;obtain⟨a,ay⟩: ∃a,a=fM s:=⟨_,rfl⟩;rw[<-ay];refine dL func49 ?_;refine Sz (λe=>?_) (λe=>?_)
 .have k:a=false:=by rw[ay,e];rfl
  refine V6 ?_;exact⟨by rw[k];rfl,H.au⟩
 obtain⟨c,r,b⟩: ∃c r,s=c::r:=List.exists_cons_of_ne_nil e;have j:s.length=r.length+1:=by rw[b];rfl
 have d:s.getD 0 0=c:=by rw[b];rfl
 unfold fM at ay;rw[d]at ay;refine Sz (λp=>?_) (λp=>?_)
 .have k:a=false:=by rw[ay,zam oM];rfl
  refine V4 ?_;exact⟨by rw[k];rfl,H.au⟩
 rw[zau oM]at ay;refine V1 ?_;refine Vv (ah.zw (i:=0) rfl rfl oM) ?_;rw[d];refine Sz (λq=>?_) (λq=>?_)
 .have k:a=false:=by rw[ay,show R4 c=false from zam oM];rfl
  refine V2 ?_;exact⟨by rw[k];rfl,H.au⟩
 refine V1 ?_;refine Vv (ah.zw (i:=0) rfl rfl oM) ?_;rw[d];refine Cz (λo=>?_) (λo=>?_)
 .have k:a=false:=by rw[ay,show R4 c=false from zam oM];rfl
  refine V1 ?_;exact⟨by rw[k];rfl,H.au⟩
 rw[show R4 c=true from zau oM,zer,zer]at ay;refine V1 ?_;refine aO (ahB s (by rw[b];simp) oM) rfl rfl (λx y u=>?_);obtain⟨⟨t,rfl,l⟩,g⟩:=u;have m:=H.aK g;refine Sz (λf=>?_) (λf=>?_)
 .have S:s.all nR=true:=l.1 f
  rw[S]at ay;refine Kz (MK s S) (λz n v=>?_);refine On (Vv (ah.not rfl) (V2 ?_));exact⟨by rw[ay];rfl,n.au⟩
 have S:s.all nR=false:=by rw[<-zdr];exact λh=>f (l.2 h)
 rw[S]at ay;refine V2 ?_;exact⟨by rw[ay];rfl,m.au⟩
def Kn (b:Nat) (l:List bF):HP:=exH λv=>dx (blk b [v] 37) (aY 50 7 aL v l)
instance aiP:IsIface prog 97:=⟨kR⟩
def afd (t:bZ):Rk prog 96 [agg (aG t)] w (agg (aj (aaB t))):=by
 have H:=Sep.aI w;refine pI func96 ?_;refine Sr (bK H (h:=λg n d j=>?_));refine Az (λi p e l=>?_);refine Kz (zN t) (λq f m=>?_);refine Mv ?_;refine Sz (λa=>?_) (λa=>?_)
 .have S:mX t=true:=zau a
  refine V3 ?_;refine Vb (aj ⟨t.null,0,[]⟩) ?_;refine Tz (λr b=>?_);refine V0 ?_;exact⟨_,⟨_,_,_,rfl,rfl,nL (cs:=aj ⟨t.null,0,[]⟩) (o:=0) (k:=3) (b.obj At0) (us:=aj ⟨t.null,0,[]⟩) rfl rfl,rfl⟩,by unfold aaB;rw[S];rfl,b.au⟩
 have S:mX t=false:=zam a;refine V1 ?_;refine Vb (aj ⟨false,0,[]⟩) ?_;refine Tz (λs c=>?_);refine V0 ?_;exact⟨_,⟨_,_,_,rfl,rfl,nL (cs:=aj ⟨false,0,[]⟩) (o:=0) (k:=3) (c.obj At0) (us:=aj ⟨false,0,[]⟩) rfl rfl,rfl⟩,by unfold aaB;rw[S];rfl,c.au⟩
def y8 {F:NP} {O:List bF} (name:L8) (t:bZ) (l:(Kn b O).ok F w) (y:O.length<=1000):
    aX prog 95 [str name,agg (aG t),aC b] w λv m=>v=.tuple #[]/\cO F (Kn b (O++[qD ((O.length+1:Nat):Int) name t])) w m:=by
  have S:=Sep.dA l;unfold Kn at S;obtain⟨D,S⟩:=S.ex0;have H:=S.bW;obtain⟨A,u,rfl,j,x⟩:=Sep.bX H At1;refine uU func95 ?_;refine Sr (bK H (cs:=aG t) rfl (h:=λq G o z=>?_));refine Dz (λk J d=>?_);refine V3 ?_;refine Gc k 3 ((O.length+1:Nat):Int) ?_;refine V3 ?_;refine dS k 7 [(5,false),(4,true),(3,true),(2,true),(1,false),(0,false)] d (afd t) (h:=λK a C=>⟨(bE rfl kR (ah.JZ rfl (a.obj At0) (us:=aG t) rfl rfl) rfl (av (av (av (jG a (h:=jG a (h:=dw))))))),?_⟩);refine Gp k 8 rfl rfl (λ_=>ah.build (out:=aL (qD ((O.length+1:Nat):Int) name t)) (bQ.one rfl rfl rfl sM rfl (bQ.one rfl rfl rfl sM rfl (bQ.many rfl rfl (zbd rfl) rfl (bQ.many rfl rfl (zbd rfl) rfl bQ.nil))))) (Gz k 9 [(0,false)] a ([qD ((O.length+1:Nat):Int) name t].flatMap aL) (h:=λr L e=>⟨sL,?_⟩));refine gZ k 10 _ e (news:=[qD ((O.length+1:Nat):Int) name t]) At2 kP kN (dW (λ_=>rfl) _) (h:=λE M c=>?_);obtain⟨n,s,rfl,i,g⟩:=Sep.bX c At2;refine⟨sT,?_⟩;refine mJ k 11 _ c (h:=λN f=>⟨sT,?_⟩);refine V0 ?_;exact⟨rfl,(Sep.tZ (p:=λv=>dx (blk b [v] 37) (aY 50 7 aL v _)) _ (Sep.aZ f.bN)).first.bf⟩
variable {p:aU} {v:Value}
theorem Wq (hp:fK w v p) (hn:p.cols.length<=1000000):Rk prog 50 [v] w (.bool (lM p)):=by
 obtain⟨vw,vc,rfl,hw,r,hr,q⟩:=hp;obtain⟨A,m,rfl,⟨hm,Gj⟩,hA⟩:=hr;have z:=q.len;have H:=Sep.aI w;obtain⟨C,ay⟩: ∃C,C=lM p:=⟨_,rfl⟩;rw[<-ay];unfold lM at ay;refine dL func50 ?_;refine Sr (bK H (cs:=[vw,.slice A r.length m,I p.group]) rfl (h:=λb1 w2 H2 k1=>?_));refine V1 ?_;refine vG H2 (h:=λb3 w5 N k4=>?_);have N:=Sep.ain N At0;refine V5 ?_;refine aM (λi:Nat=>[(1,aC b1),(3,.map (some b3)),(9,.slice A r.length m),(10,I r.length),(11,I i)]) (λi w'=>(i<=r.length/\∀(j:Nat) o,j<i->p.cols[j]? =some o->fM o.name=true/\¬(0<=p.group/\o.name=iY))/\∃f n,Had ((p.cols.map (·.name)).take i) f n/\Sep w noB [BQ b3 f n,blk b1 [vw,.slice A r.length m,I p.group] 32] w') (λi _=>r.length-i) 0 tR ⟨⟨zai _,λj o E=>zas E (zdy j)⟩,_,_,Had.nil,N⟩ (λi τ wa hI=>?_);obtain⟨⟨hi,k⟩,f,n,a,D⟩:=hI;refine Lp ?_;refine Cz (λIe=>?_) (λIe=>?_)
 .have G:i<p.cols.length:=oM
  obtain⟨x,hx,L⟩:=q.at G;obtain⟨Ax,cx,rfl,_⟩:=id L;have d:p.cols[i]? =some p.cols[i]:=zaa G;obtain⟨o,X⟩: ∃o,o=p.cols[i]:=⟨_,rfl⟩;rw[<-X]at hx L d;have Y:(p.cols.map (·.name)).take (i+1)=(p.cols.map (·.name)).take i++[o.name]:=by rw[zaq,zbw,d];rfl
  have l:o∈p.cols:=zag d;refine Az (λb5 wb Hb ka=>?_);refine Tz (λwc Z=>?_);refine V3 ?_;obtain⟨c,T,V⟩:=a.val ⟨o.name.toArray⟩;rw[zah,zae]at T;refine eu (OP (i:=⟨o.name.toArray⟩) Z At1 rfl rfl) rfl ?_;rw[V];refine Vc ((c+1:Nat):Int) ?_;have S:=a.push o.name (c:=c) (by rw[zah,zae];omega);rw[<-Y]at S;refine OT Z At1 rfl rfl rfl (h:=λwd Hd=>?_);refine Kz (PZ o.name) (λwe M kb=>?_);refine V2 ?_;refine eO (t:=24) rfl (λP=>?_) (λP=>?_)
  .have aaf: ¬fM o.name=true:=by simpa using P
   refine V2 ?_;refine⟨?_,M.au⟩
   have u:p.cols.all (λo=>fM o.name&& !(decide (0<=p.group)&&decide (o.name=iY)))=false:=by
    rw[<-zdr,zaz];intro h;have Q:=h o l;simp_all
   rw[ay,u];simp[fU]
  have J:fM o.name=true:=by simpa using P
  refine Sz (λSb=>?_) (λSb=>?_)
  .refine Cz (λO=>?_) (λO=>?_)
   .have R:0<=p.group/\o.name=iY:=⟨oM,O⟩
    refine V1 ?_;refine⟨?_,M.au⟩
    have u:p.cols.all (λo=>fM o.name&& !(decide (0<=p.group)&&decide (o.name=iY)))=false:=by
     rw[<-zdr,zaz];intro h;have Q:=h o l;simp_all
    rw[ay,u];simp[fU]
   have b: ¬(0<=p.group/\o.name=iY):=λh=>O h.2;refine V2 ?_;exact ak (i+1) tR ⟨⟨oM,λj y E g=>by
   by_cases e:j=i
   .subst e;rw[d]at g;injection g with g;rw[<-g];exact⟨J,b⟩
   exact k j y oM g⟩,_,_,S,M.bN⟩ oM
  have b: ¬(0<=p.group/\o.name=iY):=λh=>oM;refine V4 ?_;exact ak (i+1) tR ⟨⟨oM,λj y E g=>by
  by_cases e:j=i
  .subst e;rw[d]at g;injection g with g;rw[<-g];exact⟨J,b⟩
  exact k j y oM g⟩,_,_,S,M.bN⟩ oM
 have W:i=r.length:=oM
 have F:p.cols.all (λo=>fM o.name&& !(decide (0<=p.group)&&decide (o.name=iY)))=true:=by
  rw[zaz];intro o X;obtain⟨j,E⟩:=zdf X;obtain⟨Q,h2⟩:=k j o (by have:=fP E;omega) E;rw[Q,zer];cases hg:decide (0<=p.group)<;>cases hc:decide (o.name=iY)<;>simp_all
 rw[F]at ay;have s:=a.nd;rw[W,z,zaj sM]at s;rw[zae]at s;have K:(n=r.length↔(p.cols.map (·.name)).Nodup):=by rw[z];exact s
 have ay:C=decide ((n:Int)=r.length/\1<=r.length/\r.length<=16/\ -1<=p.group/\p.group<=r.length):=by
  rw[ay,Bool.and_true,<-Bool.decide_and,z];refine zbg.2 ⟨λh=>?_,λh=>?_⟩
  .have:=K.2 h.2
   omega
  exact⟨oM,K.1 oM⟩
 refine V5 ?_;refine eu (OQ D At0 rfl) rfl ?_;refine Sz (λSc=>?_) (λSc=>?_)
 .refine Sz (λSd=>?_) (λSd=>?_)
  .refine Sz (λSe=>?_) (λSe=>?_)
   .refine Sz (λSf=>?_) (λSf=>?_)
    .refine V6 ?_
     exact⟨by rw[ay];first | exact zay Value.bool (Eq.symm (zam oM)) | exact zay Value.bool (zbg.2 oM),D.au⟩
    refine V2 ?_;exact⟨by rw[ay];first | exact zay Value.bool (Eq.symm (zam oM)) | exact zay Value.bool (zbg.2 oM),D.au⟩
   refine V4 ?_;exact⟨by rw[ay];first | exact zay Value.bool (Eq.symm (zam oM)) | exact zay Value.bool (zbg.2 oM),D.au⟩
  refine V6 ?_;exact⟨by rw[ay];first | exact zay Value.bool (Eq.symm (zam oM)) | exact zay Value.bool (zbg.2 oM),D.au⟩
 refine V8 ?_;exact⟨by rw[ay];first | exact zay Value.bool (Eq.symm (zam oM)) | exact zay Value.bool (zbg.2 oM),D.au⟩
def Ad (g:Int) (i:Nat):Nat:=if 0<=g/\g<i then 1 else 0
def P5 {S:Type} {l:List S} {i:Nat} {o:S} (h:l[i]? =some o):l.drop i=o::l.drop (i+1):=by
 have k:=fP h;rw[zbn k];rw[zaa k]at h;injection h with h
 rw[h]
theorem acw {cols:List bF} {vc vp:Value} (hc:aP w vc aL 7 cols) (hp:fK w vp p) (hfw:bY p.wh) (hfc: ∀o∈p.cols,bY o.steps) (hn:p.cols.length<=1000000) (hT:gK w):
    aX Tryz.prog 54 [vc,vp] w λv Q=>∃x,v=.tuple #[x,I (bD cols p).2]/\True/\cO noB (aY 50 7 aL x (bD cols p).1) w Q:=by
  have hp0:=hp;obtain⟨vw,vq,rfl,hw,r,hr,G⟩:=hp;obtain⟨A,m,rfl,⟨hm,Gj⟩,hA⟩:=hr;have EO:=G.len;have H:=Sep.aI w;obtain⟨D,ay⟩: ∃D,D=bD cols p:=⟨_,rfl⟩;rw[<-ay];unfold bD at ay;obtain⟨C,n,rfl,⟨hwn,alU⟩,hC⟩:=id hw;refine dn Tryz.func54 ?_;refine Sr (bK H (cs:=[.slice C p.wh.length n,.slice A r.length m,I p.group]) rfl (h:=λL w2 H2 k1=>?_));refine Kz (Wq (hp0.aK H2.au) oM) (λw7 R k6=>?_);refine Vv (ah.not rfl) (Qn ?_);refine Cd rfl (λu=>?_) (λu=>?_)
  . rw[zac (by simpa using u)]at ay
    refine V2 ?_;exact⟨_,by rw[ay];rfl,trivial,by rw[ay];exact(Sep.iX R 50 7 aL).first.bf⟩
  rw[zab (by simpa using u)]at ay;have alV:p.cols.length<=16:=(rG (by simpa using u)).1.2.1;refine Sk (dU (λ_:Unit=>[(0,vc),(3,aC L)]) (λ_ Q=>D=rz cols p.group 0 p.cols []/\Sep w noB [blk L [.slice C p.wh.length n,.slice A r.length m,I p.group] 32] Q) ?_ ?_)
  . refine Cz (λIe=>?_) (λIe=>?_)
    . have hne:p.wh≠[]:=λe=>by rw[e]at Ie;exact zas Ie dC
      refine Kz (LJ (hc.aK R.au) (hw.aK R.au) hfw (hT.aK R.au).utf) (λwa Ha ka=>?_);refine Az (λb6 wb Hb kb=>?_);refine Tz (λwc Hc=>?_);refine Cz (λIf=>?_) (λIf=>?_)
      . rw[zac ⟨hne,If⟩]at ay
        refine V3 ?_;exact⟨_,by rw[ay];rfl,trivial,by rw[ay];exact(Sep.iX Hc 50 7 aL).first.bf⟩
      rw[zab (λh=>If h.2)]at ay;refine Cz (λIg=>?_) (λIg=>?_)
      . rw[zac ⟨hne,Ig⟩]at ay
        refine V2 ?_;exact⟨_,by rw[ay];rfl,trivial,by rw[ay];exact(Sep.iX Hc 50 7 aL).first.bf⟩
      rw[zab (λh=>Ig h.2)]at ay;refine V0 ?_;exact aA () tR ⟨ay,Hc.bN⟩
    have he:p.wh=[]:=zbf oM;rw[zab (λh=>h.1 he),zab (λh=>h.1 he)]at ay;refine V0 ?_;exact aA () tR ⟨ay,R⟩
  rintro _ τ wd ⟨O,Hd⟩;refine Lp ?_;refine Az (λE we He kc=>?_);refine Nx (Vv (ah.makeFunc (fs:=[]) (us:=[]) (cs:=[.tmp 8]) rfl rfl) (V1 ?_));refine Vb (aG iZ) ?_;refine Az (λq wf Hf kd=>?_);refine Tz (λwg Hg=>?_);refine V4 ?_
  have T:Mw.Sep w noB [Kn E [],blk q (aG iZ) 46,blk L [.slice C p.wh.length n,.slice A r.length m,I p.group] 32] wg:=by
    have h1:=(Sep.iX (Hg.aJ) 50 7 aL).aJ;exact Sep.tZ (p:=λv=>dx (blk E [v] 37) (aY 50 7 aL v [])) _ (Sep.aZ h1)
  refine aM (λx:Nat×List bF=>[(0,vc),(3,aC L),(8,aC E),(9,.func (.func 95) #[] #[aC E]),(10,aC q),(40,.slice A r.length m),(41,I r.length),(42,I x.1)]) (λx Q=>(x.1<=r.length/\x.2.length=x.1+Ad p.group x.1/\rz cols p.group x.1 (p.cols.drop x.1) x.2=D)/\Sep w noB [Kn E x.2,blk q (aG iZ) 46,blk L [.slice C p.wh.length n,.slice A r.length m,I p.group] 32] Q) (λx _=>r.length-x.1) (0,[]) tR ⟨⟨zai _,by dsimp only;unfold Ad;rw[zab oM];rfl,O.symm⟩,T⟩ (λx τ wi hI=>?_);obtain⟨i,c⟩:=x;obtain⟨⟨hi,d,k⟩,T⟩:=hI;dsimp only at hi d k T;have hai:Ad p.group i<=1:=by unfold Ad;split<;>omega
  have ap0:c.length<=i+1:=oM;refine Lp ?_;refine Cz (λIh=>?_) (λIh=>?_)
  . have Z:i<p.cols.length:=oM
    obtain⟨vx,hx,P⟩:=G.at Z;obtain⟨Ax,cx,rfl,_⟩:=id P;have N:p.cols[i]? =some p.cols[i]:=zaa Z;obtain⟨o,ho⟩: ∃o,o=p.cols[i]:=⟨_,rfl⟩;rw[<-ho]at hx P N;have hof:=hfc o (zag N);rw[P5 N,rz]at k;unfold Ad at d;refine Az (λW wj Hi ke=>?_);refine Am ?_;refine Tz (λwk Hj=>?_);refine Kz (LJ (hc.aK Hj.au) (P.aK Hj.au) hof (hT.aK Hj.au).utf) (λwl Hk kf=>?_);refine Az (λX wm Hl kg=>?_);refine Tz (λwn Hm=>?_);refine Cz (λIi=>?_) (λIi=>?_)
    . rw[zac Ii]at k
      refine V3 ?_;exact⟨_,by rw[<-k];rfl,trivial,by rw[<-k];exact(Sep.iX Hm 50 7 aL).first.bf⟩
    rw[zab Ii]at k;refine Sk (dU (λ_:Unit=>[(0,vc),(3,aC L),(8,aC E),(9,.func (.func 95) #[] #[aC E]),(10,aC q),(11,I i),(12,aC W),(13,aC X),(40,.slice A r.length m),(41,I r.length),(42,I i)]) (λ_ Q=>Sep w noB [blk X (aG (gH cols o.steps).1) 46,blk W (dV (o.name,.slice Ax o.steps.length cx)) 43,Kn E (if(i:Int)=p.group then c++[qD ((i:Int)+1) iY iZ]else c),blk q (aG iZ) 46,blk L [.slice C p.wh.length n,.slice A r.length m,I p.group] 32] Q) ?_ ?_)
    . refine Cz (λIj=>?_) (λIj=>?_)
      . have M:(i:Int)=p.group:=Ij
        refine V2 ?_;obtain⟨F0,a,t,S⟩:=Hm.bG At2;refine fQ (vals:=[str iY,agg (aG iZ)]) rfl (y8 iY iZ a oM) rfl rfl (λv' wo z=>?_);obtain⟨rfl,g,F,y,b⟩:=z;have Hn:=S _ F _ g y b;rw[zab oM]at d;have f:((c.length+1:Nat):Int)=(i:Int)+1:=oM;rw[f]at Hn;refine V0 ?_;exact aA () tR (by rw[zac M];exact Hn)
      have M: ¬(i:Int)=p.group:=Ij;refine V0 ?_;exact aA () tR (by rw[zab M];exact Hm)
    intro _ τ wp V;refine Lp ?_;refine Sz (λSa=>?_) (λSa=>?_)
    . refine Cz (λIk=>?_) (λIk=>?_)
      . have l:0<=p.group/\p.group<=i:=⟨oM,Ik⟩
        rw[zac l]at k;refine Cz (λIl=>?_) (λIl=>?_)
        . rw[zac Il]at k
          refine V2 ?_;exact⟨_,by rw[<-k];rfl,trivial,by rw[<-k];exact(Sep.iX V 50 7 aL).first.bf⟩
        rw[zab Il]at k;refine Tz (λwq Hp=>?_);refine V4 ?_;obtain⟨j,s⟩: ∃j,j=if(i:Int)=p.group then c++[qD ((i:Int)+1) iY iZ]else c:=⟨_,rfl⟩
        rw[<-s]at Hp k
        have anG:j.length=i+1:=by
          rw[s]
          split
          . rw[zab oM]at d
            rw[zad,zaf];omega
          rw[zac oM]at d;omega
        have f:((j.length+1:Nat):Int)=(i:Int)+2:=oM;obtain⟨F0,a,t,S⟩:=Hp.bG At2;refine fQ (vals:=[str o.name,agg (aG iZ)]) rfl (y8 o.name _ a oM) rfl rfl (λv' wr z=>?_);obtain⟨rfl,g,F,y,b⟩:=z;have Hq:=S _ F _ g y b;rw[f]at Hq;refine V2 ?_;exact ak (i+1,j++[qD ((i:Int)+2) o.name iZ]) tR ⟨⟨dO,by dsimp only;rw[zad,zaf];unfold Ad;rw[zac oM];omega,k⟩,Hq.bN.bN⟩ dO
      have l: ¬(0<=p.group/\p.group<=i):=λh=>Ik h.2;rw[zab l]at k;refine V4 ?_;rw[zab (show ¬(i:Int)=p.group from λe=>l ⟨oM,oM⟩)]at V;rw[zab oM]at d;have f:((c.length+1:Nat):Int)=(i:Int)+1:=oM;obtain⟨F0,a,t,S⟩:=V.bG At2;refine fQ (vals:=[str o.name,agg (aG (gH cols o.steps).1)]) rfl (y8 o.name _ a oM) rfl rfl (λv' ws z=>?_);obtain⟨rfl,g,F,y,b⟩:=z;have Hr:=S _ F _ g y b;rw[f]at Hr;refine V2 ?_;exact ak (i+1,c++[qD ((i:Int)+1) o.name (gH cols o.steps).1]) tR ⟨⟨dO,by dsimp only;rw[zad,zaf];unfold Ad;rw[zab oM];omega,k⟩,Hr.bN.bN⟩ dO
    have l: ¬(0<=p.group/\p.group<=i):=λh=>Sa h.1;rw[zab l]at k;refine V5 ?_;rw[zab (show ¬(i:Int)=p.group from λe=>l ⟨oM,oM⟩)]at V;rw[zab oM]at d;have f:((c.length+1:Nat):Int)=(i:Int)+1:=oM;obtain⟨F0,a,t,S⟩:=V.bG At2;refine fQ (vals:=[str o.name,agg (aG (gH cols o.steps).1)]) rfl (y8 o.name _ a oM) rfl rfl (λv' wt z=>?_);obtain⟨rfl,g,F,y,b⟩:=z;have Hs:=S _ F _ g y b;rw[f]at Hs;refine V2 ?_;exact ak (i+1,c++[qD ((i:Int)+1) o.name (gH cols o.steps).1]) tR ⟨⟨dO,by dsimp only;rw[zad,zaf];unfold Ad;rw[zab oM];omega,k⟩,Hs.bN.bN⟩ dO
  have Y:i=r.length:=oM;rw[Y,EO,zds,rz]at k;rw[Y,EO]at d;unfold Ad at d;refine Cz (λIm=>?_) (λIm=>?_)
  . rw[zac oM]at k
    rw[zab oM]at d;refine V2 ?_;have f:((c.length+1:Nat):Int)=p.group+1:=oM;obtain⟨F0,a,t,S⟩:=T.bG At0;refine fQ (vals:=[str iY,agg (aG iZ)]) rfl (y8 iY iZ a oM) rfl rfl (λv' wu z=>?_);obtain⟨rfl,g,F,y,b⟩:=z;have Ht:=S _ F _ g y b;rw[f]at Ht;refine Nx ?_;have J:=Ht;unfold Kn at J;obtain⟨v8,J⟩:=J.ex0;have J:=J.bW;refine Ld J ?_;refine V2 ?_;exact⟨v8,by rw[<-k];rfl,trivial,by rw[<-k];exact J.aJ.first.bf⟩
  rw[zab oM]at k;refine V0 ?_;have K:=T;unfold Kn at K;obtain⟨v8,K⟩:=K.ex0;have K:=K.bW;refine Ld K ?_;refine V2 ?_;exact⟨v8,by rw[<-k];rfl,trivial,by rw[<-k];exact K.aJ.first.bf⟩
def acy (hp:fK w v p) (hn:p.cols.length<=100) (J:p.wh.length<=1000) (f: ∀o∈p.cols,o.steps.length<=1000):
    aX Tryz.prog 36 [v] w λv L=>∃x,v=x/\True/\cO noB (aY 3 1 intCells x (Mh p)) w L:=by
  obtain⟨K,vc,rfl,hw,r,hr,S⟩:=hp;obtain⟨A,m,rfl,⟨hm,Gj⟩,hA⟩:=hr;have EO:=S.len;have H:=Sep.aI w;rw[<-R8];refine dL Tryz.func36 ?_;refine Sr (bK H (cs:=[K,.slice A r.length m,I p.group]) rfl (h:=λn w2 R k1=>?_));refine Nz (UN (hw.aK R.au) J) (λP w7 _ T k6=>?_);refine V5 ?_
  have e:Mw.Sep w noB [aY 3 1 intCells P (mH p.wh []),blk n [K,.slice A r.length m,I p.group] 32] w7:=by
    unfold mH;rw[zfa,zbt];exact T
  refine aM (λx:Nat×Value=>[(1,aC n),(3,x.2),(10,.slice A r.length m),(11,I r.length),(12,I x.1)]) (λx L=>x.1<=r.length/\Sep w noB [aY 3 1 intCells x.2 (mH p.wh (p.cols.take x.1)),blk n [K,.slice A r.length m,I p.group] 32] L) (λx _=>r.length-x.1) (0,P) tR ⟨zai _,e⟩ (λx τ wa Y=>?_);obtain⟨i,v0⟩:=x;obtain⟨hi,e⟩:=Y;dsimp only at hi e;obtain⟨B,cb,rfl,hcb,hB⟩:=Sep.bX e At0;have g:=YA (wh:=p.wh) (m:=1000) (cols:=p.cols.take i) λo u=>f o (zcj u);rw[zah,zcf oM]at g;refine Lp ?_;refine Cz (λX=>?_) (λX=>?_)
  . have j:i<p.cols.length:=oM
    obtain⟨vx,hx,d⟩:=S.at j;obtain⟨Ax,cx,rfl,_⟩:=id d;have c:p.cols[i]? =some p.cols[i]:=zaa j;obtain⟨o,u⟩: ∃o,o=p.cols[i]:=⟨_,rfl⟩;rw[<-u]at hx d c;have z:=f o (zag c);have hul:=G7 o.steps;have E:mH p.wh (p.cols.take (i+1))=mH p.wh (p.cols.take i)++tC o.steps:=by rw[zaq,c];exact VR _ _ _
    refine Az (λb5 wb Hb ka=>?_);refine Tz (λwc V=>?_);refine Nz (UN (d.aK V.au) z) (λx2 wd _ M kb=>?_);obtain⟨B2,c2,rfl,Z,q⟩:=Sep.bX M At0;refine mq M At2 q kS oM (dW (λ_=>rfl) _) (h:=?_);intro v2 we N;rw[<-E]at N;refine V3 ?_;exact ak (i+1,v2) tR ⟨dO,N.bN.bN⟩ dO
  have t:i=r.length:=oM;rw[t,zaj oM]at e g ⊢;refine V1 ?_;obtain⟨Q,b,s,k⟩:=e.bG At0;refine aO (aat b oM) rfl rfl (λv' wf G=>?_);obtain⟨rfl,a,F,C,D⟩:=G;have O:=k _ F _ a C D;have l:((mH p.wh p.cols).mergeSort λx y=>decide (x<=y)).length=(mH p.wh p.cols).length:=zfs _;rw[<-l]at O;refine V1 ?_;obtain⟨Q,b,s,k⟩:=O.bG At0;refine aO (LK b oM) (by rw[l];rfl) rfl (λv' wg G=>?_);obtain⟨rfl,a,F,C,D⟩:=G;have W:=k _ F _ a C D;refine V1 ?_;exact⟨_,rfl,trivial,W.first.bf⟩
def DV (s:UInt8): ∀l:List (L8),l≠[]->jo s l++[s]=l.flatMap (· ++[s])
 | [],h=>zas rfl h
 | [w],_=>by simp[jo]
 | w::x::l,_=>by
  have i:=DV s (x::l) sM;show(w++s::jo s (x::l))++[s]=_
  rw[zbi,<-i];simp
def ML {l:List bH} (h:(jd l).2=0) (c:bY l):(jd l).1.length<=400000:=by
 obtain⟨e,a,b⟩:=MF h;rw[b]
 have:=BZ 32 (k:=6146) (ws:=l.map iE) λw d=>by
  obtain⟨x,S,rfl⟩:=zav.1 d;exact XK (a x S) (c x S)
 rw[zae]at this;show(jo 32 (l.map iE)).length<=_
 omega
def La {o:mF}:Mi o=true↔((jd o.steps).2≠0\/(jd o.steps).1=[]):=by unfold Mi;rw[decide_eq_true_iff]
def Tf (n:Int) (h:cB n) (S:gK w):Rk prog 48 [I n] w (str (Lib.itoa n)):=
 Calls.mono (Tryz.strconv_Itoa n h.1 h.2 w S.pow) λe b a=>by
  obtain⟨rfl,k,o,rfl⟩:=a;exact⟨rfl,Pt w k o⟩
def afe (h:UInt8) {l:List (L8)} (E:aP w v gG 1 l) (G:l.length<=1000000) (b:(jo h l).length<=140737488355328):Rk prog 52 [v,str [h]] w (str (jo h l)):=by
 obtain⟨A,c,rfl,⟨H,C⟩,hR⟩:=E
 by_cases u:l=[]
 .subst u
  exact Calls.mono (Tryz.strings_Join_none A c ⟨#[h]⟩ w) λe K D=>by
   obtain⟨rfl,rfl⟩:=D;exact⟨rfl,aS.refl _ _⟩
 have S:0<l.length:=zfn.2 u;obtain⟨z,rfl⟩:=hR.addr S;obtain⟨L,t⟩:=aN S;obtain⟨i,n,k⟩:=hR.cell (f:=0) t rfl;injection n with n;subst n
 have r:=World.cell?_spot k;obtain⟨m,o,sp⟩:=z;have g:sp=none:=r;subst g
 have q:m<w.heap.size:=by
  refine Classical.byContradiction λJ=>?_;unfold World.cell? at k;rw[zdo (by show w.heap.size<=m;omega)]at k;cases k
 have d:(l.map λs:L8=>(⟨s.toArray⟩:ByteArray)).map (·.data.toList)=l:=by
  rw[zdn];exact(zcu λs _=>rfl).trans (List.map_id l)
 have:=rD (Tryz.strings_Join m o c (l.map λs=>⟨s.toArray⟩) ⟨#[h]⟩ w (λj x y=>by
  rw[zbw]at y;obtain⟨s,F,rfl⟩:=zbb.1 y;obtain⟨i,p,a⟩:=hR.cell (f:=0) F rfl;injection p with p;subst p
  rw[zfc,zfi,Addr.add_lit]at a;exact a) q I4 (by rw[zae];exact H) (by rw[d];show(Lib.join l [h]).length<=_;rw[join_eq];exact b))
 rw[d,zae]at this;have e:Lib.join l [h]=jo h l:=join_eq h l;rw[<-e];exact this
theorem acz (hp:fK w v p) (N:bY p.wh) (E: ∀o∈p.cols,bY o.steps) (hn:p.cols.length<=1000000) (hT:gK w):
    Rk prog 15 [v] w (.tuple #[str (Ki p).1,I (Ki p).2]):=by
  have hp0:=hp;obtain⟨vw,vc,rfl,hw,r,hr,D⟩:=hp;obtain⟨A,m,rfl,⟨hm,Gj⟩,hA⟩:=hr;obtain⟨C,n,rfl,⟨hwn,alU⟩,hC⟩:=id hw;have EO:=D.len;have H:=Sep.aI w;obtain⟨c,ay⟩: ∃c,c=Ki p:=⟨_,rfl⟩;rw[<-ay];unfold Ki at ay;have s:Dx p≠true->c=([],2):=λh=>by rw[ay,zac Iy]
  refine dL func15 ?_;refine Sr (bK H (cs:=[.slice C p.wh.length n,.slice A r.length m,I p.group]) rfl (h:=λK w2 H2 k1=>?_));refine Kz (Wq (hp0.aK H2.au) hn) (λw7 W k6=>?_);refine Vv (ah.not rfl) (Qn ?_);refine Cd rfl (λq=>?_) (λq=>?_)
  . have S:c=([],2):=s λh=>by have u:=(rH.1 h).1;rw[u]at q;cases q
    refine V2 ?_;exact⟨by rw[S];rfl,W.au⟩
  have Q:lM p=true:=by simpa using q
  obtain⟨⟨XM,alV,hg1,hg2⟩,d⟩:=rG Q;refine Kz (U4 (hw.aK W.au) N (hT.aK W.au)) (λwa X ka=>?_);refine Cz (λIe=>?_) (λIe=>?_)
  . have S:c=([],2):=s λh=>Ie (rH.1 h).2.1
    refine V2 ?_;exact⟨by rw[S];rfl,X.au⟩
  have R:(jd p.wh).2=0:=oM;have hwl:=ML R N;refine Sk (dU (λ_:Unit=>[(1,aC K),(4,str (if p.wh=[]then nA else(jd p.wh).1))]) (λ_ V=>Sep w noB [blk K [.slice C p.wh.length n,.slice A r.length m,I p.group] 32] V) ?_ ?_)
  . refine Cz (λIf=>?_) (λIf=>?_)
    . have he:p.wh=[]:=zbf oM
      refine V1 ?_;exact aA () ⟨rfl,by rw[zac he];rfl,trivial⟩ X
    have he: ¬p.wh=[]:=λe=>If (by rw[e];rfl);refine V0 ?_;exact aA () ⟨rfl,by rw[zab he];rfl,trivial⟩ X
  intro _ τ wb Hb;have h4n:nA.length=4:=rfl;have hq4:(if p.wh=[]then nA else(jd p.wh).1).length<=400000:=by split<;>omega
  refine Lp ?_;refine V2 ?_;refine Bs Hb ([xK p.wh].flatMap gG) (λbs wc Y kb=>?_);have Y:=amY Y;refine V5 ?_;have J:Mw.Sep w noB [aY 9 1 gG (.slice (some ⟨bs,0,none⟩) 1 1) (xK p.wh::(p.cols.take 0).map uf),blk K [.slice C p.wh.length n,.slice A r.length m,I p.group] 32] wc:=Y;refine aM (λx:Nat×Value=>[(1,aC K),(6,x.2),(31,.slice A r.length m),(32,I r.length),(33,I x.1)]) (λx V=>(x.1<=r.length/\∀(j:Nat) o,j<x.1->p.cols[j]? =some o->Mi o=false)/\Sep w noB [aY 9 1 gG x.2 (xK p.wh::(p.cols.take x.1).map uf),blk K [.slice C p.wh.length n,.slice A r.length m,I p.group] 32] V) (λx _=>r.length-x.1) (0,_) tR ⟨⟨zai _,λj o L=>zas L (zdy j)⟩,J⟩ (λx τ wd hI=>?_);obtain⟨i,v0⟩:=x;obtain⟨⟨hi,b⟩,J⟩:=hI;dsimp only at hi b J;have f:(xK p.wh::(p.cols.take i).map uf).length=i+1:=by rw[zat,zae,zah];omega
  refine Lp ?_;refine Cz (λIg=>?_) (λIg=>?_)
  . have O:i<p.cols.length:=oM
    obtain⟨vx,l,G⟩:=D.at O;obtain⟨Ax,cx,rfl,_⟩:=id G;have t:p.cols[i]? =some p.cols[i]:=zaa O;obtain⟨o,F⟩: ∃o,o=p.cols[i]:=⟨_,rfl⟩;rw[<-F]at l G t;have g:=zag t;have htk:xK p.wh::(p.cols.take (i+1)).map uf=(xK p.wh::(p.cols.take i).map uf)++[uf o]:=by rw[zaq,t,zan];rfl
    refine Az (λb8 we He kc=>?_);refine Tz (λwf Hf=>?_);refine Kz (U4 (G.aK Hf.au) (E o g) (hT.aK Hf.au)) (λwg Z kd=>?_);refine Sz (λSa=>?_) (λSa=>?_)
    . have a:Mi o=true:=La.2 (.inl Sa)
      refine V3 ?_;have S:c=([],2):=s λh=>by have u:=(rH.1 h).2.2 o g;rw[u]at a;cases a
      exact⟨by rw[S];rfl,Z.au⟩
    refine Cz (λIh=>?_) (λIh=>?_)
    . have a:Mi o=true:=La.2 (.inr Ih)
      refine V2 ?_;have S:c=([],2):=s λh=>by have u:=(rH.1 h).2.2 o g;rw[u]at a;cases a
      exact⟨by rw[S];rfl,Z.au⟩
    have XL:Mi o=false:=by
      rw[<-zdr];intro h
      rcases La.1 h with h | h
      . omega
      exact Ih h
    have hts:(jd o.steps).2=0:=oM;have ap2:=ML hts (E o g)
    have hnl:o.name.length<=32:=by
      have M:=d o g;unfold fM at M;simp only[zbr,decide_eq_true_eq]at M;omega
    refine V7 ?_;refine Bs Z ([uf o].flatMap gG) (λbs wi Hh ke=>?_);refine eH Hh (news:=[uf o]) At1 (by rw[f];unfold maxLen;simp;omega) (by rw[f];simp;omega) (dW (λ_=>rfl) _) (h:=?_);intro v2 wj Hi;rw[<-htk]at Hi;refine V3 ?_;exact ak (i+1,v2) tR ⟨⟨dO,λj y L T=>by
    by_cases e:j=i
    . subst e;rw[t]at T;injection T with T;rw[<-T];exact XL
    exact b j y (by dsimp only at L;omega) T⟩,Hi.bN⟩ dO
  have Gq:i=r.length:=oM;rw[Gq,zaj oM]at J f
  have z: ∀o∈p.cols,Mi o=false:=λo F=>by
    obtain⟨j,L⟩:=zdf F;exact b j o (by have:=fP L;omega) L
  have P:Dx p=true:=rH.2 ⟨Q,R,z⟩;rw[zab (by rw[P];decide)]at ay;refine O1 ?_;refine Qn (dU (λ_:Unit=>[(6,v0),(11,str (if p.group<0 then nA else itoa p.group))]) (λ_ V=>Sep w noB [aY 9 1 gG v0 (xK p.wh::p.cols.map uf),blk K [.slice C p.wh.length n,.slice A r.length m,I p.group] 32] V) ?_ ?_)
  . refine Cz (λIi=>?_) (λIi=>?_)
    . have hg: ¬p.group<0:=oM
      refine Kz (Tf p.group ⟨oM,oM⟩ (hT.aK J.au)) (λwk Hj kf=>?_);refine V1 ?_;exact aA () ⟨rfl,by rw[zab hg];rfl,trivial⟩ Hj
    have hg:p.group<0:=oM;refine V0 ?_;exact aA () ⟨rfl,by rw[zac hg];rfl,trivial⟩ J
  intro _ τ wl Hk;have h6:=itoa_length_le p.group oM oM;have hq6:(if p.group<0 then nA else itoa p.group).length<=30:=by split<;>omega
  refine Lp ?_;refine V3 ?_;refine Bs Hk ([yV p.group].flatMap gG) (λbs2 wm Hl kg=>?_);refine eH Hl (news:=[yV p.group]) At0 (by rw[f];unfold maxLen;simp;omega) (by rw[f];simp;omega) (dW (λ_=>rfl) _) (h:=?_);intro v2 wn Hm;have hlp:(xK p.wh::p.cols.map uf)++[yV p.group]=l8 p:=rfl;rw[hlp]at Hm;have hll:(l8 p).length<=1002:=by unfold l8;rw[zat,zad,zae,zaf];omega
  have hlj:(jo 10 (l8 p)).length<=(400100+1)*(l8 p).length:=BZ 10 (k:=400100) λx l=>by
    unfold l8 at l
    rcases zax.1 l with rfl | l
    . unfold xK R5
      rw[zad];have h4:nA.length=4:=rfl
      split<;>simp only[zat,zci]<;>omega
    rcases zbh.1 l with l | l
    . obtain⟨o,F,rfl⟩:=zav.1 l
      have u:=z o F;have h2:(jd o.steps).2=0:=Classical.byContradiction λh=>by rw[La.2 (.inl h)]at u;cases u
      have h3:=ML h2 (E o F);have M:=d o F;unfold fM at M;simp only[zbr,decide_eq_true_eq]at M;unfold uf Yp;simp only[zad,zat,zci];omega
    rw[zaw]at l;subst l;unfold yV Mg;rw[zad];have h4:nA.length=4:=rfl;have h6:=itoa_length_le p.group oM oM
    split<;>simp only[zat,zci]<;>omega
  refine Kz (afe 10 (gP Hm At0) oM oM) (λwo Hn kh=>?_);refine V3 ?_;exact⟨by rw[ay];show Value.tuple #[str (jo 10 (l8 p)++[10]),I 0]=_;rw[DV 10 _ (by unfold l8;simp)];rfl,Hn.au⟩
def P6:lM p=true↔(1<=p.cols.length/\p.cols.length<=16/\ -1<=p.group/\p.group<=p.cols.length)/\(∀o∈p.cols,fM o.name=true/\¬(0<=p.group/\o.name=iY))/\(p.cols.map (·.name)).Nodup:=by
 unfold lM;rw[zbr,zbr,decide_eq_true_iff,decide_eq_true_iff,zaz,and_assoc];refine and_congr_right λ_=>and_congr_left λ_=>?_;refine forall_congr' λo=>forall_congr' λ_=>?_;rw[zbr,zdm,Bool.and_eq_false_iff,decide_eq_false_iff_not,decide_eq_false_iff_not];exact and_congr_right λ_=>⟨λh ⟨a,b⟩=>h.elim (λh=>h a) λh=>h b,λh=>(Classical.em (0<=p.group)).elim (λa=>.inr λb=>h ⟨a,b⟩) .inl⟩
def qp (h: ¬((1<=p.cols.length/\p.cols.length<=16/\ -1<=p.group/\p.group<=p.cols.length)/\(∀o∈p.cols,fM o.name=true/\¬(0<=p.group/\o.name=iY))/\(p.cols.map (·.name)).Nodup)):lM p=false:=eq_false_of_ne_true λe=>h (P6.1 e)
def MN {l:List mF}:(l.map (·.name)).Nodup↔∀(a b:Nat) x y,a<b->l[a]? =some x->l[b]? =some y->x.name≠y.name:=by
 unfold List.Nodup;rw[zft,zfd];constructor
 .intro h a b x y k d e
  obtain⟨S,rfl⟩:=zba.1 d;obtain⟨c,rfl⟩:=zba.1 e;exact h a b S c k
 intro h a b S c k;exact h a b _ _ k (zaa S) (zaa c)
def Ws (s:L8):Rk prog 163 [str s] w (.bool (fM s)):=by
 have H:=Sep.aI w
 have b: ∀(i:Nat) c,s[i]? =some c->nR c=false->fM s=false:=λi c o m=>by
  unfold fM;have :s.all nR=false:=by rw[List.all_eq_false];exact⟨c,zag o,by rw[m];decide⟩
  rw[this,Bool.and_false]
 refine dL func163 ?_;refine Sz (λu=>?_) (λu=>?_)
 .have l: ¬(1<=s.length/\s.length<=32):=oM
  refine V2 ?_;exact⟨zay Value.bool (by unfold fM;rw[zam l,zea,zea]),H.au⟩
 refine Cz (λz=>?_) (λz=>?_)
 .have l: ¬(1<=s.length/\s.length<=32):=oM
  refine V1 ?_;exact⟨zay Value.bool (by unfold fM;rw[zam l,zea,zea]),H.au⟩
 have l:1<=s.length/\s.length<=32:=oM;refine V1 ?_;refine aM (λi:Nat=>[(0,str s),(3,I i)]) (λi M=>(i<=s.length/\(s.take i).all nR=true/\(0<i->R4 (s.getD 0 0)=true))/\Sep w noB [] M) (λi _=>s.length-i) 0 tR ⟨⟨zai _,sM,λh=>zas h dC⟩,H⟩ (λi O N L=>?_);obtain⟨⟨hi,p,d⟩,f⟩:=L;refine Lp ?_;refine Cz (λA=>?_) (λA=>?_)
 .have r:i<s.length:=oM
  obtain⟨c,o⟩:=aN r;have g:s.getD i 0=c:=jP o;have j:nR c=true->(s.take (i+1)).all nR=true:=λh=>by rw[zaq,o,zct,List.all_append,p,List.all_cons,h];rfl
  have n: ¬(97<=c.toNat/\c.toNat<=122)->i=0->fM s=false:=λh e=>by
   unfold fM;rw[e]at g;have :R4 (s.getD 0 0)=false:=by rw[g];exact zam h
   rw[this,Bool.and_false,zea]
  have k:nR c=(decide (97<=c.toNat/\c.toNat<=122)||decide (c=95)||decide (48<=c.toNat/\c.toNat<=57)):=by unfold nR R4 uh;simp[UInt8.le_iff_toNat_le]
  have q:c=95↔c.toNat=95:=⟨λh=>by rw[h];rfl,λh=>UInt8.toNat_inj.1 h⟩;refine V2 ?_;refine Vv (ah.zw rfl rfl r) ?_;rw[g];refine Sz (λE=>?_) (λE=>?_)
  .refine Sz (λF=>?_) (λF=>?_)
   .have a: ¬(97<=c.toNat/\c.toNat<=122):=oM
    refine Sz (λG=>?_) (λG=>?_)
    .have ay:=n a oM
     refine V3 ?_;exact⟨by rw[ay];rfl,f.au⟩
    have hi0: ¬i=0:=oM;refine Sz (λv=>?_) (λv=>?_)
    .have S: ¬c=95:=λe=>v (by rw[e];rfl)
     refine Sz (λJ=>?_) (λJ=>?_)
     .have ay:=b i c o IC
      refine V5 ?_;exact⟨by rw[ay];rfl,f.au⟩
     refine Cz (λC=>?_) (λC=>?_)
     .have ay:=b i c o IC
      refine V1 ?_;exact⟨by rw[ay];rfl,f.au⟩
     have m:nR c=true:=by rw[k,zau (show 48<=c.toNat/\c.toNat<=57 from oM)];simp
     refine V3 ?_;exact ak (i+1) tR ⟨⟨oM,j m,λ_=>d oM⟩,f⟩ oM
    have m:nR c=true:=by rw[k,zau (q.2 oM)];simp
    refine V6 ?_;exact ak (i+1) tR ⟨⟨oM,j m,λ_=>d oM⟩,f⟩ oM
   have y:97<=c.toNat/\c.toNat<=122:=oM;refine V4 ?_;exact ak (i+1) tR ⟨⟨oM,j (by rw[k,zau y];simp),λ_=>by
   rcases zeh i with e | e
   .rw[e]at g;rw[g];exact zau y
   exact d e⟩,f⟩ oM
  have a: ¬(97<=c.toNat/\c.toNat<=122):=oM;refine Sz (λK=>?_) (λK=>?_)
  .have ay:=n a oM
   refine V3 ?_;exact⟨by rw[ay];rfl,f.au⟩
  have hi0: ¬i=0:=oM;refine Sz (λx=>?_) (λx=>?_)
  .have S: ¬c=95:=λe=>x (by rw[e];rfl)
   refine Sz (λSh=>?_) (λSh=>?_)
   .have ay:=b i c o IC
    refine V5 ?_;exact⟨by rw[ay];rfl,f.au⟩
   refine Cz (λD=>?_) (λD=>?_)
   .have ay:=b i c o IC
    refine V1 ?_;exact⟨by rw[ay];rfl,f.au⟩
   have m:nR c=true:=by rw[k,zau (show 48<=c.toNat/\c.toNat<=57 from oM)];simp
   refine V3 ?_;exact ak (i+1) tR ⟨⟨oM,j m,λ_=>d oM⟩,f⟩ oM
  have m:nR c=true:=by rw[k,zau (q.2 oM)];simp
  refine V6 ?_;exact ak (i+1) tR ⟨⟨oM,j m,λ_=>d oM⟩,f⟩ oM
 have t:i=s.length:=oM;rw[t,zbo]at p;refine V1 ?_;exact⟨zay Value.bool (by unfold fM;rw[zau l,d oM,p];rfl),f.au⟩
theorem acA (hp:fK w v p):Rk prog 98 [v] w (.bool (lM p)):=by
 obtain⟨T,vc,rfl,hw,r,hr,j⟩:=hp;obtain⟨A,m,rfl,⟨hm,Gj⟩,R⟩:=hr;have EO:=j.len;have H:=Sep.aI w;refine dL func98 ?_;refine Sr (bK H (cs:=[T,.slice A r.length m,I p.group]) rfl (h:=λD w2 E k1=>?_));refine Sz (λSa=>?_) (λSa=>?_)
 .have ay:lM p=false:=qp λh=>oM
  refine V6 ?_;exact⟨by rw[ay];rfl,E.au⟩
 refine Sz (λSb=>?_) (λSb=>?_)
 .have ay:lM p=false:=qp λh=>oM
  refine V4 ?_;exact⟨by rw[ay];rfl,E.au⟩
 refine Sz (λSc=>?_) (λSc=>?_)
 .have ay:lM p=false:=qp λh=>oM
  refine V2 ?_;exact⟨by rw[ay];rfl,E.au⟩
 refine Cz (λIe=>?_) (λIe=>?_)
 .have ay:lM p=false:=qp λh=>oM
  refine V1 ?_;exact⟨by rw[ay];rfl,E.au⟩
 have hsh:1<=p.cols.length/\p.cols.length<=16/\ -1<=p.group/\p.group<=p.cols.length:=oM;refine V1 ?_;refine aM (λi:Nat=>[(1,aC D),(3,I r.length),(4,I i)]) (λi M=>(i<=p.cols.length/\(∀(a:Nat) x,a<i->p.cols[a]? =some x->fM x.name=true/\¬(0<=p.group/\x.name=iY))/\∀(a b:Nat) x y,a<b->b<i->p.cols[a]? =some x->p.cols[b]? =some y->x.name≠y.name)/\Sep w noB [blk D [T,.slice A r.length m,I p.group] 32] M) (λi _=>p.cols.length-i) 0 tR ⟨⟨zai _,λa x h=>oM,λa b x y _ h=>oM⟩,E⟩ (λi τ wa F=>?_);obtain⟨⟨hi,hg,Z⟩,Ha⟩:=F;refine Lp ?_;refine Cz (λIf=>?_) (λIf=>?_)
 .have G:i<p.cols.length:=oM
  obtain⟨vx,hx,hsx⟩:=j.at G;have d:p.cols[i]? =some p.cols[i]:=zaa G;obtain⟨o,ho⟩: ∃o,o=p.cols[i]:=⟨_,rfl⟩;rw[<-ho]at hx hsx d;have K:=zag d;refine Kz (Ws o.name) (λwb N ka=>?_);refine Vv (ah.not rfl) (Mv ?_);refine eO (t:=39) rfl (λQ=>?_) (λQ=>?_)
  .have ay:lM p=false:=qp λh=>by rw[(h.2.1 o K).1]at Q;exact zas Q dC
   refine V2 ?_;exact⟨by rw[ay];rfl,N.au⟩
  have J:fM o.name=true:=by simpa using Q
  refine Sz (λSe=>?_) (λSe=>?_)
  .refine Cz (λV=>?_) (λV=>?_)
   .have ay:lM p=false:=qp λh=>(h.2.1 o K).2 ⟨oM,V⟩
    refine V1 ?_;exact⟨by rw[ay];rfl,N.au⟩
   have s: ¬(0<=p.group/\o.name=iY):=λh=>V h.2;refine V1 ?_;refine aM (λk:Nat=>[(1,aC D),(3,I r.length),(4,I i),(5,I k)]) (λk M=>(k<=i/\∀(a:Nat) x,a<k->p.cols[a]? =some x->x.name≠o.name)/\Sep w noB [blk D [T,.slice A r.length m,I p.group] 32] M) (λk _=>i-k) 0 tR ⟨⟨zai _,λa x h=>oM⟩,N⟩ (λk τ wc F=>?_);obtain⟨⟨hk,n⟩,Hc⟩:=F;refine Lp ?_;refine Cz (λIh=>?_) (λIh=>?_)
   .have z:k<i:=oM
    obtain⟨vy,L,C⟩:=j.at (show k<p.cols.length from oM);have g:p.cols[k]? =some (p.cols[k]'oM):=zaa oM;obtain⟨u,hu⟩: ∃u,u=p.cols[k]'oM:=⟨_,rfl⟩;rw[<-hu]at L C g;refine Dz (λW wd O=>?_);refine V5 ?_;refine Gl W 5 rfl rfl (ah.dY (i:=k) (f:=0) rfl O R L rfl) (V5 ?_);refine Gl W 11 rfl rfl (ah.dY (i:=i) (f:=0) rfl O R hx rfl) (O1 ?_);refine fZ W kR ?_;refine Cz (λIi=>?_) (λIi=>?_)
    .have ay:lM p=false:=qp λh=>MN.1 h.2.2 k i u o z g d Ii
     refine V1 ?_;exact⟨by rw[ay];rfl,O.au⟩
    refine V3 ?_;exact ak (k+1) tR ⟨⟨oM,λa x q S=>by
    rcases zef.1 q with e | e
    .exact n a x e S
    subst e;rw[g]at S;injection S with S;rw[<-S];assumption⟩,O⟩ oM
   have hki:k=i:=oM;refine V3 ?_;exact ak (i+1) tR ⟨⟨oM,λa x q S=>by
   rcases zef.1 q with e | e
   .exact hg a x e S
   .subst e;rw[d]at S;injection S with S;rw[<-S];exact⟨J,s⟩,λa b x y l Y S c=>by
   rcases zef.1 Y with e | e
   .exact Z a b x y l e S c
   subst e;rw[d]at c;injection c with c;rw[<-c];exact n a x oM S⟩,Hc⟩ oM
  have s: ¬(0<=p.group/\o.name=iY):=λh=>Se h.1;refine V3 ?_;refine aM (λk:Nat=>[(1,aC D),(3,I r.length),(4,I i),(5,I k)]) (λk M=>(k<=i/\∀(a:Nat) x,a<k->p.cols[a]? =some x->x.name≠o.name)/\Sep w noB [blk D [T,.slice A r.length m,I p.group] 32] M) (λk _=>i-k) 0 tR ⟨⟨zai _,λa x h=>oM⟩,N⟩ (λk τ we F=>?_);obtain⟨⟨hk,n⟩,He⟩:=F;refine Lp ?_;refine Cz (λIj=>?_) (λIj=>?_)
  .have z:k<i:=oM
   obtain⟨vy,L,C⟩:=j.at (show k<p.cols.length from oM);have g:p.cols[k]? =some (p.cols[k]'oM):=zaa oM;obtain⟨u,hu⟩: ∃u,u=p.cols[k]'oM:=⟨_,rfl⟩;rw[<-hu]at L C g;refine Dz (λX wf P=>?_);refine V5 ?_;refine Gl X 5 rfl rfl (ah.dY (i:=k) (f:=0) rfl P R L rfl) (V5 ?_);refine Gl X 11 rfl rfl (ah.dY (i:=i) (f:=0) rfl P R hx rfl) (O1 ?_);refine fZ X kR ?_;refine Cz (λIk=>?_) (λIk=>?_)
   .have ay:lM p=false:=qp λh=>MN.1 h.2.2 k i u o z g d Ik
    refine V1 ?_;exact⟨by rw[ay];rfl,P.au⟩
   refine V3 ?_;exact ak (k+1) tR ⟨⟨oM,λa x q S=>by
   rcases zef.1 q with e | e
   .exact n a x e S
   subst e;rw[g]at S;injection S with S;rw[<-S];assumption⟩,P⟩ oM
  have hki:k=i:=oM;refine V3 ?_;exact ak (i+1) tR ⟨⟨oM,λa x q S=>by
  rcases zef.1 q with e | e
  .exact hg a x e S
  .subst e;rw[d]at S;injection S with S;rw[<-S];exact⟨J,s⟩,λa b x y l Y S c=>by
  rcases zef.1 Y with e | e
  .exact Z a b x y l e S c
  subst e;rw[d]at c;injection c with c;rw[<-c];exact n a x oM S⟩,He⟩ oM
 have Gq:i=p.cols.length:=oM;refine V1 ?_;exact⟨zay Value.bool (Eq.symm (P6.2 ⟨hsh,λo ho=>by
 obtain⟨a,q⟩:=List.mem_iff_getElem?.1 ho;exact hg a o (by have:=(zba.1 q).1;omega) q,MN.2 λa b x y l S c=>Z a b x y l (by have:=(zba.1 c).1;omega) S c⟩)),Ha.au⟩
end Go.Proofs.Mw
