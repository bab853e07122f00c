/-
 The document's groups,of nothing:entries put in;walked.
-/
import Derived.Test.YtbfjonalkaophaaGreatDoorNk26
set_option linter.all false
set_option maxRecDepth 4000
namespace Go.Proofs.Mw
open Go.Lib Go.Proofs.Tryz
attribute [local irreducible] FW FL FG FGn jX lg gD l7 Qfn ah
def Xc (sums:Nat) (k:List aF):List aF×List Int:=(k,List.replicate (sums+1) 0)
def ajJ (sums:Nat) (l:List bT) (k:List aF):List aF×List Int:=(k,fu sums l k)
def qN (l:List bT) (key:List aF) (k:Nat):List Int:=(List.range k).map λq=>jV l key (q+1)
def Zo (l:List bT) (key:List aF) (k:Nat):qN l key k++[jV l key (k+1)]=qN l key (k+1):=by unfold qN;rw[List.range_succ,zan];rfl
def ac8 (s:Nat) (l:List bT) (key:List aF):jV l key 0::qN l key s=fu s l key:=by
 unfold qN fu;rw[List.range_succ_eq_map,zbc,zdn];rfl
def ac9 (l:List bT) (key:List aF) (k:Nat):(qN l key k).length=k:=by unfold qN;rw[zae,zdu]
def KT (keys sums:Nat) (l:List bT):Int:=if(l.all λx=>qC keys sums x)=false then 2 else if xq sums l=false then 50 else 0
def QE {keys s:Nat} {l:List bT} {k:List aF} {i:Nat} (a:(l.all λx=>qC keys s x)=true) (hi:i<=s) (S:bM (jV l k i)≠true):KT keys s l=50:=by
 have :xq s l=false:=by
  cases h:xq s l with
  | false=>rfl
  | true=>exact zas (uY.1 h k i hi) S
 unfold KT;rw[zab (by rw[a];decide),zac this]
def afR {keys s:Nat} {l:List bT} (a:(l.all λx=>qC keys s x)=true) (S: ∀k∈gN l,∀i,i<=s->bM (jV l k i)=true):KT keys s l=0:=by
 have :xq s l=true:=uY.2 λk i hi=>by
  by_cases h:k∈gN l
  .exact S k h i hi
  rw[uX (l:=l) λx c e=>h ((oV l).2 ⟨x,c,e⟩)];exact aal
 unfold KT;rw[zab (by rw[a];decide),zab (by rw[this];decide)]
def aaY {o:Option Nat}:zM o<0↔o=none:=by
 cases o with
 | none=>exact⟨λ_=>rfl,λ_=>dC⟩
 | some i=>exact⟨λh=>by unfold zM at h;dsimp only at h;omega,λh=>by cases h⟩
variable {v:Value}
def aaZ {h w:Wd} {S:NP} {r:List HP} {e n:Nat} (H:Mw.Sep h S (vE e 1 v n ((List.replicate n (0:Int)).flatMap oZ)::r) w):Mw.Sep h S (aY e 1 oZ v (List.replicate n 0)::r) w:=by
 unfold aY;rw[zda];exact H
def afS {a c:Type} {K:List a} {j:Nat} {k:a} (f g:a->c) (h:K[j]? =some k):((K.take j).map f++(K.drop j).map g).set j (f k)=(K.take (j+1)).map f++(K.drop (j+1)).map g:=by
 obtain⟨S,e⟩:=zba.1 h;rw[zdq _ _ IL,zae,zah,zcf oM,zdw,zbn S,zbc,zcz,zaq,h,zct,zan,zbp];rfl
def Xd (G:List o7):HP:=fA λw=>lF w G
def lF.push {w:Wd} {G:List o7} {g:o7} (h:lF w G) (S:aP w g.1 aj 3 g.2.2.1) (a:aP w g.2.1 oZ 1 (g.2.2.2.drop 1)):lF w (G++[g]):=λx k=>by
 rcases zbh.1 k with k | k
 .exact h x k
 rw[zaw]at k;subst k;exact⟨S,a⟩
def lF.set {w:Wd} {G:List o7} {g:o7} (j:Nat) (h:lF w G) (S:aP w g.1 aj 3 g.2.2.1) (a:aP w g.2.1 oZ 1 (g.2.2.2.drop 1)):lF w (G.set j g):=λx k=>by
 rcases List.mem_or_eq_of_mem_set k with k | k
 .exact h x k
 subst k;exact⟨S,a⟩
variable {w:Wd} {F:NP}
set_option maxHeartbeats 1000000 in
theorem TJ {bg keys sums:Nat} {Z:List xA} (hp:(blk bg (zi keys sums (.slice none 0 0)) 252).ok F w)
    (hv: ∀w1,aS F w w1->aP w1 v qE 3 Z) (hZ: ∀w1,aS F w w1->zh w1 Z) (hkm:keys<=16) (XO:sums<=16) (hf: ∀z∈Z,cB z.2.2.w/\∀c∈z.2.2.vals,cB c.n) (hn:Z.length<=100):
    aX Tryz.prog 111 [aC bg,v] w λu w'=>∃(x gv:Value) (G:List o7),u=.tuple #[x,I (KT keys sums (Z.map (·.2.2)))]/\(KT keys sums (Z.map (·.2.2))=0->G.map (·.2.2)=aeY sums (Z.map (·.2.2)) (gN (Z.map (·.2.2))))/\
      cO F (dx (blk bg (zi keys sums gv) 252) (fA λw=>aP w gv grC 3 G/\lF w G)) w w':=by
  have H:=Sep.dA hp;obtain⟨d,P⟩: ∃d,d=Z.map (λz=>z.2.2):=⟨_,rfl⟩;rw[<-P];have hgn:d.length<=100:=by rw[P,zae];exact hn
  have hkn:=zo d;obtain⟨A,m,rfl,⟨hm,Gj⟩,_⟩:=hv w (aS.refl _ _);refine dn Tryz.func111 ?_;refine V3 ?_;refine aM (λi:Nat=>[(0,aC bg),(1,.slice A Z.length m),(6,I i)]) (λi w'=>(i<=Z.length/\∀z∈Z.take i,qC keys sums z.2.2=true)/\Mw.Sep w F [blk bg (zi keys sums (.slice none 0 0)) 252] w') (λi _=>Z.length-i) 0 tR ⟨⟨zai _,λz D=>zas D zal⟩,H⟩ (λi τ w5 hI=>?_);obtain⟨⟨hi,hmi⟩,H5⟩:=hI;refine Lp ?_;refine Cz (λIe=>?_) (λIe=>?_)
  . have J:i<Z.length:=oM
    obtain⟨z,D⟩:=aN J;have hzm:=zag D;refine V3 ?_;refine Vv (ah.fT rfl rfl (bJ (hv _ H5.au)) J) (Vv (ah.iT rfl (Sep.aI _) (bJ (hv _ H5.au)) D) ?_);refine Kz (Ze (H5.obj At0) (hZ _ H5.au _ hzm).1 (hZ _ H5.au _ hzm).2) (λwa Ha ka=>?_);refine Vv (ah.not rfl) (Qn ?_);refine Cd rfl (λIf=>?_) (λIf=>?_)
    . have C:KT keys sums d=2:=by
        unfold KT;rw[zac];have hf:qC keys sums z.2.2=false:=by simpa using If
        rw[P,zgm];exact List.all_eq_false.2 ⟨z,hzm,by show ¬qC keys sums z.2.2=true;rw[hf];decide⟩
      refine V2 ?_;exact⟨_,.slice none 0 0,[],by rw[C];rfl,λh=>zas (C.symm.trans h) dC,(Sep.pU Ha (X:=λw=>aP w (.slice none 0 0) grC 3 []/\lF w []) (λw=>⟨mR _ _ _,λg N=>zas N zal⟩)).aJ.aZ.bf⟩
    have hfz:qC keys sums z.2.2=true:=by simpa using If
    refine V3 ?_;exact ak (i+1) tR ⟨⟨oM,λy hy=>by
    rw[zaq,D]at hy
    rcases zbh.1 hy with hy | hy
    . exact hmi y hy
    rw[zct,zaw]at hy;rw[hy];exact hfz⟩,Ha⟩ oM
  have W:Z.take i=Z:=zaj oM;rw[W]at hmi
  have aag:(d.all λx=>qC keys sums x)=true:=by
    rw[P,zgm,zaz];exact λz D=>hmi z D
  have hmz: ∀z∈Z,z.2.2.key.length=keys/\z.2.2.vals.length=sums:=λz D=>by
    have:=hmi z D;unfold qC at this;rw[zbr,decide_eq_true_iff]at this;exact this.1
  refine V6 ?_;refine Qc (v:=.slice none 0 0) (k:=0) (m:=0) (c:=0) (xs:=[]) (news:=[]) (A:=none) (Sep.iX H5 257 3 grC) rfl rfl At0 (iU.nil _ _ _) (λu hu=>zas hu zal) (h63:=by decide) (hbytes:=by decide) (h:=?_);intro v37 wb Hb;obtain⟨X0,cX0,rfl,_,_⟩:=Sep.bX (l:=([]:List o7)) (enc:=grC) Hb At0;refine V2 ?_;refine aM (λx:(OA×Nat)×List o7×Nat=>[(0,aC bg),(1,.slice A Z.length m),(7,.slice x.1.1 x.2.1.length x.1.2),(8,I x.2.2)]) (λx w'=>(x.2.2<=Z.length/\x.2.1.map (·.2.2)=(gN ((Z.take x.2.2).map (·.2.2))).map (Xc sums))/\Mw.Sep w F [aY 257 3 grC (.slice x.1.1 x.2.1.length x.1.2) x.2.1,Xd x.2.1,blk bg (zi keys sums (.slice none 0 0)) 252] w') (λx _=>Z.length-x.2.2) ((X0,cX0),[],0) tR ⟨⟨zai _,rfl⟩,(Sep.pU Hb (X:=λw=>lF w []) (λw g N=>zas N zal)).aJ⟩ (λx τ wc hI=>?_);obtain⟨⟨X,cX⟩,G,i⟩:=x;obtain⟨⟨hi,r⟩,Hc⟩:=hI;dsimp only at hi r Hc
  have hGl:G.length<=i:=by
    have E:=zay List.length r;rw[zae,zae]at E;have h2:=zo ((Z.take i).map (·.2.2));rw[zae,zah]at h2;omega
  have hGk:G.map (·.2.2.1)=gN ((Z.take i).map (·.2.2)):=by
    have E:=zay (List.map Prod.fst) r;rw[zdn,zdn]at E;rw[show((λg:o7=>g.2.2.1))=Prod.fst∘(λg:o7=>g.2.2)from rfl,E];exact List.map_id _
  refine Lp ?_;refine Cz (λIg=>?_) (λIg=>?_)
  . have J:i<Z.length:=oM
    obtain⟨z,D⟩:=aN J;have hzm:=zag D;have O:(Z.take (i+1)).map (λz=>z.2.2)=(Z.take i).map (λz=>z.2.2)++[z.2.2]:=by rw[zaq,D,zan];rfl
    obtain⟨kv,vv,e⟩:=z;have hkw: ∀w1,aS F w w1->aP w1 kv aj 3 e.key:=λw1 E=>(hZ w1 E _ hzm).1;have hek:e.key.length<=16:=by have:=(hmz _ hzm).1;dsimp only at this;omega
    dsimp only at O;refine V3 ?_;refine Vv (ah.fT rfl rfl (bJ (hv _ Hc.au)) J) (V1 ?_);refine Vv (ah.dY (f:=0) rfl (Sep.aI _) (bJ (hv _ Hc.au)) D rfl) (Kz (afJ (gP Hc At0) (Sep.dh Hc At1) (hkw _ Hc.au)) (λwd Hd kb=>?_));refine Vl ?_;refine Cz (λIh=>?_) (λIh=>?_)
    . have hno:e.key∉gN ((Z.take i).map λz=>z.2.2):=λhm=>by
        rw[<-hGk]at hm;obtain⟨g,N,e2⟩:=zav.1 hm;exact zdc.1 (aaY.1 Ih) g N |> λh=>by simp[e2]at h
      refine Dz (λR we He=>?_);refine V3 ?_;refine Gp R 3 rfl rfl (λ_=>(ah.fT rfl rfl (bJ (hv _ He.au)) J)) (V1 ?_);refine GS (Gt rfl (ah.dY (f:=0) rfl (Sep.aI _) (bJ (hv _ He.au)) D rfl) ?_);refine Gm R 7 ?_;refine V3 ?_;refine jw R (e1:=6) (e2:=11) kR ?_ ?_
      . refine jS R 6 [(10,false),(9,true),(8,true),(7,true),(0,true)] He (lV (hkw _ He.au) oM) (h:=λy wf _ Hf kc=>?_)
        obtain⟨Y,M,rfl,_,_⟩:=Sep.bX Hf At0;refine⟨sL,?_⟩;refine aaV (t:=255) R 11 _ Hf (k:=sums) (cs:=(List.replicate sums (0:Int)).flatMap oZ) (hcs:=by exact rV (enc:=oZ) dC 0 sums) (hk:=by unfold maxLen;omega) (hb:=by omega) (h:=λL wg Hg=>?_);have Hg:=aaZ (Sep.nC (n:=sums) (s:=1) Hg At0 (by rw[jh (jl.len (enc:=oZ) (k:=1)),zda]) kS);refine⟨sT,?_⟩;refine Gb R 12 (grC (.slice Y e.key.length M,.slice (some ⟨L,0,none⟩) sums sums,e.key,List.replicate (sums+1) 0)) ?_;refine Gz R 13 _ Hg ([((.slice Y e.key.length M,.slice (some ⟨L,0,none⟩) sums sums,e.key,List.replicate (sums+1) 0):o7)].flatMap grC) (h:=λbq wh Hh=>⟨sT,?_⟩);refine gZ R 14 _ Hh (news:=[((.slice Y e.key.length M,.slice (some ⟨L,0,none⟩) sums sums,e.key,List.replicate (sums+1) 0):o7)]) At2 kJ kM (λu hu=>zaz.1 (show([((.slice Y e.key.length M,.slice (some ⟨L,0,none⟩) sums sums,e.key,List.replicate (sums+1) 0):o7)].flatMap grC).all Value.oneCell'=true from rfl) u hu) (h:=λv66 wi Hi=>?_);obtain⟨X2,cX2,rfl,_,_⟩:=Sep.bX Hi At2;refine⟨sT,?_⟩;refine rA R 15 _ (h:=⟨sT,?_⟩);refine V1 ?_;refine Vc ((i+1:Nat):Int) ?_;refine V1 ?_;have E:Mw.Sep w F [aY 2 1 oZ (.slice (some ⟨L,0,none⟩) sums sums) (List.replicate sums 0),aY 48 3 aj (.slice Y e.key.length M) e.key,aY 257 3 grC (.slice X2 (G++[((.slice Y e.key.length M,.slice (some ⟨L,0,none⟩) sums sums,e.key,List.replicate (sums+1) 0):o7)]).length cX2) (G++[((.slice Y e.key.length M,.slice (some ⟨L,0,none⟩) sums sums,e.key,List.replicate (sums+1) 0):o7)]),Xd G,blk bg (zi keys sums (.slice none 0 0)) 252] wi:=by first | exact Hi | exact Hi.aJ
        have h2:=dz (dz E At0) At1;have h3:=Sep.jN (Z:=λw=>aP w (.slice Y e.key.length M) aj 3 e.key/\aP w (.slice (some ⟨L,0,none⟩) sums sums) oZ 1 (List.replicate sums 0)) h2 (λw a b=>⟨b,a⟩);have h4:=Sep.jN (Z:=λw=>lF w (G++[((.slice Y e.key.length M,.slice (some ⟨L,0,none⟩) sums sums,e.key,List.replicate (sums+1) 0):o7)])) h3.aR (λw a b=>a.push b.1 b.2);exact ak ((X2,cX2),G++[(.slice Y e.key.length M,.slice (some ⟨L,0,none⟩) sums sums,e.key,List.replicate (sums+1) 0)],i+1) tR ⟨⟨dO,by dsimp only;rw[O,oF,zab hno,zan,zan,r];rfl⟩,h4.aJ⟩ dO
      refine M0 (t:=255) R 11 [(5,false),(4,true),(3,true),(2,true),(1,true),(0,true)] He (k:=sums) (cs:=(List.replicate sums (0:Int)).flatMap oZ) (hcs:=by exact rV (enc:=oZ) dC 0 sums) (hk:=by unfold maxLen;omega) (hb:=by omega) (h:=λL wj Hj=>?_);have Hj:=aaZ (Sep.nC (n:=sums) (s:=1) Hj At0 (by rw[jh (jl.len (enc:=oZ) (k:=1)),zda]) kS);refine⟨(bE rfl kR (ah.dY (f:=0) rfl (Sep.aI _) (bJ (hv _ Hj.au)) D rfl) rfl (av (av (av (av (av (dw))))))),?_⟩;refine dF R 6 _ Hj (lV (hkw _ Hj.au) oM) (h:=λy wk _ Hk kd=>?_);obtain⟨Y,M,rfl,_,_⟩:=Sep.bX Hk At0;refine⟨sT,?_⟩;refine Gb R 12 (grC (.slice Y e.key.length M,.slice (some ⟨L,0,none⟩) sums sums,e.key,List.replicate (sums+1) 0)) ?_;refine Gz R 13 _ Hk ([((.slice Y e.key.length M,.slice (some ⟨L,0,none⟩) sums sums,e.key,List.replicate (sums+1) 0):o7)].flatMap grC) (h:=λbq wl Hl=>⟨sT,?_⟩);refine gZ R 14 _ Hl (news:=[((.slice Y e.key.length M,.slice (some ⟨L,0,none⟩) sums sums,e.key,List.replicate (sums+1) 0):o7)]) At2 kJ kM (λu hu=>zaz.1 (show([((.slice Y e.key.length M,.slice (some ⟨L,0,none⟩) sums sums,e.key,List.replicate (sums+1) 0):o7)].flatMap grC).all Value.oneCell'=true from rfl) u hu) (h:=λv66 wm Hm=>?_);obtain⟨X2,cX2,rfl,_,_⟩:=Sep.bX Hm At2;refine⟨sT,?_⟩;refine rA R 15 _ (h:=⟨sT,?_⟩);refine V1 ?_;refine Vc ((i+1:Nat):Int) ?_
      refine V1 ?_;have E:Mw.Sep w F [aY 2 1 oZ (.slice (some ⟨L,0,none⟩) sums sums) (List.replicate sums 0),aY 48 3 aj (.slice Y e.key.length M) e.key,aY 257 3 grC (.slice X2 (G++[((.slice Y e.key.length M,.slice (some ⟨L,0,none⟩) sums sums,e.key,List.replicate (sums+1) 0):o7)]).length cX2) (G++[((.slice Y e.key.length M,.slice (some ⟨L,0,none⟩) sums sums,e.key,List.replicate (sums+1) 0):o7)]),Xd G,blk bg (zi keys sums (.slice none 0 0)) 252] wm:=by first | exact Hm | exact Hm.aJ
      have h2:=dz (dz E At0) At1;have h3:=Sep.jN (Z:=λw=>aP w (.slice Y e.key.length M) aj 3 e.key/\aP w (.slice (some ⟨L,0,none⟩) sums sums) oZ 1 (List.replicate sums 0)) h2 (λw a b=>⟨b,a⟩);have h4:=Sep.jN (Z:=λw=>lF w (G++[((.slice Y e.key.length M,.slice (some ⟨L,0,none⟩) sums sums,e.key,List.replicate (sums+1) 0):o7)])) h3.aR (λw a b=>a.push b.1 b.2);exact ak ((X2,cX2),G++[(.slice Y e.key.length M,.slice (some ⟨L,0,none⟩) sums sums,e.key,List.replicate (sums+1) 0)],i+1) tR ⟨⟨dO,by dsimp only;rw[O,oF,zab hno,zan,zan,r];rfl⟩,h4.aJ⟩ dO
    have akk:e.key∈gN ((Z.take i).map λz=>z.2.2):=Classical.byContradiction λhm=>Ih (aaY.2 (zdc.2 λg N=>by
      refine zam λe2=>hm ?_;rw[<-hGk,<-e2];exact zav.2 ⟨g,N,rfl⟩))
    refine V3 ?_;exact ak ((X,cX),G,i+1) tR ⟨⟨dO,by dsimp only;rw[O,oF,zac akk];exact r⟩,Hd⟩ dO
  have W:Z.take i=Z:=zaj oM;rw[W,<-P]at r hGk;refine V1 ?_;refine aM (λx:List o7×Nat=>[(0,aC bg),(1,.slice A Z.length m),(7,.slice X x.1.length cX),(9,I x.2)]) (λx w'=>(x.2<=x.1.length/\x.1.length=(gN d).length/\x.1.map (·.2.2)=((gN d).take x.2).map (ajJ sums d)++((gN d).drop x.2).map (Xc sums)/\∀k∈(gN d).take x.2,∀i,i<=sums->bM (jV d k i)=true)/\Mw.Sep w F [aY 257 3 grC (.slice X x.1.length cX) x.1,Xd x.1,blk bg (zi keys sums (.slice none 0 0)) 252] w') (λx _=>x.1.length-x.2) (G,0) tR ⟨⟨zai _,by have E:=zay List.length r;rw[zae,zae]at E;exact E,by rw[zdl,zdh];exact r,λk hk=>zas hk (by rw[zdl];exact zal)⟩,Hc⟩ (λx τ wn hI=>?_);clear r hGk;obtain⟨G,j⟩:=x;obtain⟨⟨hj,amk,r,hfj⟩,Hn⟩:=hI;dsimp only at hj amk r hfj Hn;refine Lp ?_;refine Cz (λIi=>?_) (λIi=>?_)
  . have J:j<G.length:=oM
    obtain⟨key,hkj⟩:=aN (l:=gN d) (show j<(gN d).length from oM);obtain⟨gj,hgj⟩:=aN J;have T:=zag hgj
    have hgz:gj.2.2=Xc sums key:=by
      have E:(G.map (·.2.2))[j]? =(((gN d).take j).map (ajJ sums d)++((gN d).drop j).map (Xc sums))[j]? :=by rw[r]
      rw[zbw,hgj,zbx IL,zae,zah,zcf oM,zdw,zbw,zco,zfi,hkj]at E;injection E
    obtain⟨kv,sv,S,ns2⟩:=gj;injection hgz with e1 e2
    subst e1;subst e2;have hgi:lF _ G:=Sep.dh Hn At1;have akq:aP _ kv aj 3 S:=(hgi _ T).1;have akr:aP _ sv oZ 1 ((List.replicate (sums+1) (0:Int)).drop 1):=(hgi _ T).2;obtain⟨K,ck,rfl,_,_⟩:=akq;obtain⟨V,cV,rfl,_,_⟩:=akr
    have hkl:S.length<=16:=by
      obtain⟨x,hx,e⟩:=(oV d).1 (zag hkj);rw[P]at hx;obtain⟨z,D,rfl⟩:=zav.1 hx;have:=(hmz z D).1;rw[<-e];omega
    have hvl:((List.replicate (sums+1) (0:Int)).drop 1).length=sums:=by rw[zbm,zda];omega
    obtain⟨T0,hT0⟩: ∃T0,T0=jV d S 0:=⟨_,rfl⟩;refine V2 ?_;refine Vv (ah.fT rfl rfl (eF Hn At0) J) (Vv (ah.iK rfl (eF Hn At0) hgj) ?_);refine Az (λb10 wo Ho ke=>?_);refine Tz (λwp Hp=>?_);refine Kz (ahX (base:=0) 0 (hv _ Hp.au) (hZ _ Hp.au) (Sep.dh Hp At2 _ T).1 oM ⟨dC,dC⟩ hf (λz D=>oM)) (λwq Hq kf=>?_);rw[<-P,Int.zero_add,<-hT0];obtain⟨n1,XM⟩: ∃n1:Int,n1=if bM T0=true then T0 else 0:=⟨_,rfl⟩
    obtain⟨e1,he1⟩: ∃e1:Int,e1=if bM T0=true then 0 else 50:=⟨_,rfl⟩
    rw[<-XM,<-he1];refine Cz (λIj=>?_) (λIj=>?_)
    . have hnf:bM T0≠true:=λh=>Ij (by rw[he1,zac h])
      rw[zab hnf]at he1;have C:KT keys sums d=50:=QE (i:=0) aag (zai _) (by rw[<-hT0];exact hnf);refine V3 ?_;subst he1;exact⟨_,.slice none 0 0,[],by rw[C];rfl,λh=>zas (C.symm.trans h) dC,(Sep.pU (Hq.bB.first) (X:=λw=>aP w (.slice none 0 0) grC 3 []/\lF w []) (λw=>⟨mR _ _ _,λg N=>zas N zal⟩)).aJ.aZ.bf⟩
    have he0:e1=0:=Decidable.of_not_not Ij
    have hnf:bM T0=true:=by
      cases h:bM T0 with
      | true=>rfl
      | false=>rw[h,zab dC]at he1;omega
    rw[zac hnf]at XM;refine V2 ?_;refine aM (λx:(OA×Nat)×Nat=>[(0,aC bg),(1,.slice A Z.length m),(7,.slice X G.length cX),(9,I j),(10,aC b10),(11,I n1),(13,.slice x.1.1 (qN d S x.2).length x.1.2),(14,I x.2)]) (λx w'=>(x.2<=sums/\∀q,q<x.2->bM (jV d S (q+1))=true)/\Mw.Sep w F [aY 2 1 oZ (.slice x.1.1 (qN d S x.2).length x.1.2) (qN d S x.2),blk b10 (grC (.slice K S.length ck,.slice V ((List.replicate (sums+1) (0:Int)).drop 1).length cV,S,List.replicate (sums+1) 0)) 257,aY 257 3 grC (.slice X G.length cX) G,Xd G,blk bg (zi keys sums (.slice none 0 0)) 252] w') (λx _=>sums-x.2) ((none,0),0) tR ⟨⟨zai _,λq hq=>oM⟩,Sep.iX Hq 2 1 oZ⟩ (λx τ wr hI=>?_);obtain⟨⟨S0,cS⟩,q⟩:=x;obtain⟨⟨hq,hfq⟩,Hr⟩:=hI;dsimp only at hq hfq Hr;have hsl:=ac9 d S q;refine Lp ?_;refine Cz (λIk=>?_) (λIk=>?_)
    . have aqL:q<sums:=oM
      have hzq:((List.replicate (sums+1) (0:Int)).drop 1)[q]? =some 0:=by rw[zco,List.getElem?_replicate,zac oM]
      obtain⟨T1,O⟩: ∃T1,T1=jV d S (q+1):=⟨_,rfl⟩;refine Dz (λSb ws Hs=>?_);refine V3 ?_;refine GS (Gn rfl (λ_=>ah.fT rfl rfl (bJ (Sep.dh Hs At3 _ T).2) oM) ?_);refine GS (Gt rfl (ah.dY (f:=0) rfl (Sep.aI _) (bJ (Sep.dh Hs At3 _ T).2) hzq rfl) ?_);refine V4 ?_;refine dS Sb 9 _ Hs (ahY (base:=0) q (hv _ Hs.au) (hZ _ Hs.au) (Sep.dh Hs At3 _ T).1 oM ⟨dC,dC⟩ hf (λz D=>by have:=(hmz z D).2;omega)) (h:=λwt Ht kg=>?_);rw[<-P,Int.zero_add,<-O];obtain⟨n2,hn2⟩: ∃n2:Int,n2=if bM T1=true then T1 else 0:=⟨_,rfl⟩
      obtain⟨e2,he2⟩: ∃e2:Int,e2=if bM T1=true then 0 else 50:=⟨_,rfl⟩
      rw[<-hn2,<-he2];refine⟨sT,?_⟩;refine Cz (λIl=>?_) (λIl=>?_)
      . have Q:bM T1≠true:=λh=>Il (by rw[he2,zac h])
        rw[zab Q]at he2;have C:KT keys sums d=50:=QE (i:=q+1) aag oM (by rw[<-O];exact Q);refine V3 ?_;subst he2;exact⟨_,.slice none 0 0,[],by rw[C];rfl,λh=>zas (C.symm.trans h) dC,(Sep.pU (Ht.eZ.first) (X:=λw=>aP w (.slice none 0 0) grC 3 []/\lF w []) (λw=>⟨mR _ _ _,λg N=>zas N zal⟩)).aJ.aZ.bf⟩
      have he0:e2=0:=Decidable.of_not_not Il
      have Q:bM T1=true:=by
        cases h:bM T1 with
        | true=>rfl
        | false=>rw[h,zab dC]at he2;omega
      rw[zac Q]at hn2;have hsu:qN d S q++[n2]=qN d S (q+1):=by rw[hn2,O];exact Zo d S q
      refine V2 ?_;refine Bs Ht ([n2].flatMap oZ) (λbq wu Hu kh=>?_);refine eH Hu (news:=[n2]) At0 kJ kM (dW (λ_=>rfl) _) (h:=?_);intro v116 wv Hv;rw[hsu]at Hv;obtain⟨S2,cS2,rfl,_,_⟩:=Sep.bX Hv At0;refine V4 ?_;exact ak ((S2,cS2),q+1) tR ⟨⟨dO,λp hp=>by
      dsimp only at hp
      by_cases e:p=q
      . rw[e,<-O];exact Q
      exact hfq p oM⟩,Hv⟩ dO
    have hqs:q=sums:=oM;subst hqs;refine V6 ?_;refine eu (ah.build (out:=grC (.slice K S.length ck,.slice S0 (qN d S q).length cS,S,fu q d S)) (by
    have e:grC ((.slice K S.length ck,.slice S0 (qN d S q).length cS,S,fu q d S):o7)=[.slice K S.length ck,I n1,.slice S0 (qN d S q).length cS]:=by unfold grC;rw[XM,hT0];dsimp only;rw[zW]
    rw[e];exact bQ.one rfl rfl rfl sM rfl (bQ.one rfl rfl rfl sM rfl (bQ.one rfl rfl rfl sM rfl bQ.nil)))) rfl ?_
    refine Vv (ah.fT rfl rfl (eF Hr At2) J) (rM (i:=j) (a':=((.slice K S.length ck,.slice S0 (qN d S q).length cS,S,fu q d S):o7)) rfl Hr At2 J rfl (h:=λww Hw=>?_));refine V1 ?_;refine Vc ((j+1:Nat):Int) ?_;refine V1 ?_;have hdr:(fu q d S).drop 1=qN d S q:=by rw[<-ac8];rfl
    have E:=dz Hw At0;have h2:=Sep.jN (Z:=λw=>lF w (G.set j ((.slice K S.length ck,.slice S0 (qN d S q).length cS,S,fu q d S):o7))) (E.aJ.bN.aR) (λw a b=>a.set j (a _ T).1 (by dsimp only;rw[hdr];exact b))
    exact ak (G.set j (.slice K S.length ck,.slice S0 (qN d S q).length cS,S,fu q d S),j+1) ⟨rfl,rfl,by dsimp only;rw[zdb];rfl,rfl,trivial⟩ ⟨⟨by dsimp only;rw[zdb];omega,by dsimp only;rw[zdb];exact amk,by
      dsimp only;rw[List.map_set,r];exact afS (ajJ q d) (Xc q) hkj,λk hk i hi=>by
      dsimp only at hk;rw[zaq,hkj]at hk
      rcases zbh.1 hk with hk | hk
      . exact hfj k hk i hi
      . rw[zct,zaw]at hk
        rw[hk];cases i with
        | zero=>rw[<-hT0];exact hnf
        | succ p=>exact hfq p oM⟩,by
      dsimp only;rw[zdb];exact h2.aJ⟩ (by dsimp only;rw[zdb];omega)
  have W:(gN d).take j=gN d:=zaj oM;have hdl:(gN d).drop j=[]:=List.drop_eq_nil_of_le oM;rw[W,hdl,zcn,zbt]at r;rw[W]at hfj;have ai3:=afR (keys:=keys) aag hfj;have hGe:G.map (·.2.2)=aeY sums d (gN d):=r;refine V4 ?_
  have hgs: ∀g∈G,g.2.2.1.length<=16/\g.2.2.2.length<=17:=λg N=>by
    have E:g.2.2∈G.map (·.2.2):=zdj N;rw[hGe]at E;obtain⟨k,hk,e⟩:=zav.1 E;obtain⟨x,hx,e2⟩:=(oV d).1 hk;rw[P]at hx;obtain⟨z,D,rfl⟩:=zav.1 hx;have h3:=(hmz z D).1;rw[<-e];exact⟨by dsimp only;rw[<-e2];omega,by dsimp only;rw[lQ];omega⟩
  refine Nz (M9 (G:=[]) (-1) (mR _ _ _) (λg N=>zas N zal) (zai _) (λg N=>zas N zal)) (λy wx hy Hx ki=>?_);obtain⟨yv,Ly⟩:=y;dsimp only at hy Hx ⊢;refine Mv ?_;refine Nz (M9 (G:=G) 1 (gP Hx At1) (Sep.dh Hx At2) oM (λg N=>by have:=hgs g N;omega)) (λy wy D Hy kj=>?_);obtain⟨zv,Lz⟩:=y;dsimp only at D Hy ⊢;have hyl:Ly=[]:=zgh.1 hy;subst hyl
  have hzl:Lz.length<=100:=by
    have E:=zay List.length D;rw[zae]at E;have h2:=Da 1 (G.map (·.2.2));rw[zae]at h2;omega
  refine Zi Hy (by simp only[zci];omega) (h:=?_);intro v133 wz Hz;rw[zby]at Hz
  have hro: ∀o∈Lz.map (·.2),cB o.w/\o.row.length<=1000:=λo ho=>by
    rw[D]at ho;obtain⟨g2,hg2,e1,e2⟩:=Js ho;obtain⟨g,N,rfl⟩:=zav.1 hg2;have h3:=hgs g N;exact⟨by rw[e2];exact⟨dC,dC⟩,by rw[e1,zad,zae];omega⟩
  refine Nz (BI (cZ Hz At0) I4 (λo ho=>(hro o ho).1) (λo ho=>(hro o ho).2)) (λy wD hn2 HA kk=>?_);refine Uz (λwE HB=>?_);refine V3 ?_;exact⟨_,.slice X G.length cX,G,by rw[ai3];rfl,λ_=>hGe,by
  have E:=dz HB At2;have h2:=Sep.jN (Z:=λw=>aP w (.slice X G.length cX) grC 3 G/\lF w G) E.bB.bB (λw a b=>⟨a,b⟩);exact h2.bB.aZ.first.bf⟩
def oI (w:Wd) (vw vc:Value) (r:List (L8×Value)) (p:aU):Prop:=aP w vw aQ 3 p.wh/\aP w vc dV 2 r/\qm w r p.cols
def oI.is {k v:Value} {r:List (L8×Value)} {p:aU} (h:oI w k v r p):fK w (agg [k,v,I p.group]) p:=⟨k,v,rfl,h.1,r,h.2.1,h.2.2⟩
def oI.aK {w w':Wd} {S v:Value} {r:List (L8×Value)} {p:aU} (h:oI w S v r p) (k:aS noB w w'):oI w' S v r p:=⟨h.1.aK k,h.2.1.aK k,h.2.2.aK k⟩
structure Kw where
 cv:Value
 wv:Value
 pv:Value
 ov:Value
 r:List (L8×Value)
def lY (w:Wd) (z:Kw) (cols:List bF) (p:aU) (outs:List bF):Prop:=aP w z.cv aL 7 cols/\oI w z.wv z.pv z.r p/\aP w z.ov aL 7 outs
def zu (v:Value):LV:=[v]
instance:jl zu 1:=⟨λ_=>rfl⟩
def QF (w:Wd) (b1:Nat) (g:Value) (l:List bH):Prop:=∃(bs:Nat) (sv:Value),g=.func (.func 104) #[] #[aC b1,aC bs]/\iB w bs [sv] 29/\aP w sv aQ 3 l
def nI (w:Wd) (b1:Nat) (g:Value) (l:List bH):Prop:=if l=[]then g=.func (.func 106) #[] #[]else QF w b1 g l
def o8 (w:Wd) (b1:Nat) (gl:LV) (l:List mF):Prop:=gl.length=l.length/\∀(i:Nat) g o,gl[i]? =some g->l[i]? =some o->QF w b1 g o.steps
def TK (w:Wd) (b b1 bp b4:Nat) (p:aU):Prop:=∃(pf gv:Value) (gl:LV),iB w b1 [aC b] 64/\
 (iB w bp [pf] 169/\nI w b1 pf p.wh)/\(iB w b4 [gv] 173/\aP w gv zu 1 gl)/\o8 w b1 gl p.cols
def Ky (b1 bp b4:Nat):Value:=.func (.func 107) #[] #[aC b1,aC bp,aC b4]
def qb (w:Wd) (b:Nat) (fv:Value) (p:aU):Prop:=∃b1 bp b4:Nat,fv=Ky b1 bp b4/\TK w b b1 bp b4 p
variable {b1:Nat}
def ada {b d a:Nat} {p:aU} (h:qb w b (Ky b1 d a) p):TK w b b1 d a p:=by
 obtain⟨c,S,k,e,h⟩:=h;unfold Ky at e;injection e with _ _ e
 simp[aC]at e;obtain⟨rfl,rfl,rfl⟩:=e;exact h
variable {g:Value}
def QF.aK {w w':Wd} {l:List bH} (h:QF w b1 g l) (k:aS noB w w'):QF w' b1 g l:=by
 obtain⟨b,s,e,S,a⟩:=h;exact⟨b,s,e,S.aK k,a.aK k⟩
def nI.aK {w w':Wd} {l:List bH} (h:nI w b1 g l) (k:aS noB w w'):nI w' b1 g l:=by
 unfold nI at h |-
 split
 .rename_i e;rw[zac e]at h;exact h
 rename_i e;rw[zab e]at h;exact h.aK k
def o8.nil:o8 w b1 [] []:=⟨rfl,λi g o h=>by simp at h⟩
def o8.push {d:LV} {l:List mF} {o:mF} (h:o8 w b1 d l) (c:QF w b1 g o.steps):o8 w b1 (d++[g]) (l++[o]):=by
 refine⟨by rw[zad,zad,h.1];rfl,λi x y k S=>?_⟩
 by_cases hi:i<d.length
 .rw[zce hi]at k
  rw[zce (by rw[<-h.1];exact hi)]at S;exact h.2 i x y k S
 rw[zbx oM]at k;rw[zbx (by rw[<-h.1];omega),<-h.1]at S
 have a:i-d.length=0:=by
  cases hj:i-d.length with
  | zero=>rfl
  | succ j=>rw[hj]at k;simp at k
 rw[a]at k S;injection k with k
 injection S with S
 subst k;subst S;exact c
def sV (z:Kw) (g:Int) (kv:Value) (o1 o2 o3:Int) (fv:Value):LV:=mU z.cv z.wv z.pv g z.ov kv o1 o2 o3 fv
def sW (kv:Value) (p:aU) (T:List aH):HP:=
 if p.group<0 then exH λx:Nat×Value=>dx (jH (kv=.iface 107 (aC x.1))) (dx (blk x.1 [x.2] 109) (Bz x.2 (dJ T).1))
 else exH λx:Nat×Nat×Nat=>dx (jH (kv=.iface 130 (aC x.1))) (dx (blk x.1 [aC x.2.1,I (p.group.toNat:Nat)] 132) (dx (blk x.2.1 (q9 p.group.toNat (p.cols.length-p.group.toNat) x.2.2) 166) (FX x.2.2 (p.cols.length-p.group.toNat) (T.map (fV p.group.toNat)))))
def j4 (b:Nat) (cols:List bF) (p:aU) (T:List aH):HP:=exH λx:Kw×Value×Int×Value=>dx (blk b (sV x.1 p.group x.2.1 x.2.2.1 0 0 x.2.2.2) 126) (dx (sW x.2.1 p T)
 (fA λw=>lY w x.1 cols p (bD cols p).1/\((x.2.2.1=0/\x.2.2.2=.nilFunc)\/(x.2.2.1=1/\qb w b x.2.2.2 p))))
theorem Jy {p:aU} (hp:fK w v p) (hn:p.cols.length<=100) (G:p.wh.length<=1000) (O: ∀o∈p.cols,o.steps.length<=1000):aX Tryz.prog 56 [v] w λu J=>∃x:Value×Value×List (L8×Value),u=agg [x.1,x.2.1,I p.group]/\True/\cO noB (fA λw=>oI w x.1 x.2.1 x.2.2 p) w J:=by
 obtain⟨vw,vc,rfl,R,hc⟩:=hp;obtain⟨r,hr,S⟩:=hc;have T:=R;obtain⟨W,mw,rfl,⟨hmw,aqN⟩,hW⟩:=T;obtain⟨A,m,rfl,⟨hm,Gj⟩,hA⟩:=hr;have EO:=S.len;have H:=Sep.aI w;refine pI Tryz.func56 ?_;refine Sr (bK H (cs:=[.slice W p.wh.length mw,.slice A r.length m,I p.group]) rfl (h:=λb1 w2 H2 k1=>?_));refine Az (λK w4 H4 k3=>?_);refine Qn (dU (λz:Nat×OA×Nat=>[(1,aC b1),(2,aC K),(3,aC z.1)]) (λz J=>Mw.Sep w noB [Eo (.slice z.2.1 p.wh.length z.2.2) aQ 3 p.wh,blk z.1 [.slice z.2.1 p.wh.length z.2.2,.slice none 0 0,I p.group] 32,blk K [.slice none 0 0,.slice none 0 0,I 0] 32,blk b1 [.slice W p.wh.length mw,.slice A r.length m,I p.group] 32] J) ?_ ?_)
 .refine Dz (λk w8 M=>?_)
  refine V2 ?_;refine Gp k 3 rfl rfl (λ_=>(ah.yt rfl)) (V1 ?_);refine jw k (e1:=2) (e2:=6) kR ?_ ?_
  .refine jS k 2 [(4,false),(3,true)] M (yC (R.aK M.au) G) (h:=λvx wa _ g ka=>?_)
   obtain⟨X,c,rfl,_,_⟩:=Sep.bX g At0;refine⟨sL,?_⟩;refine Gb k 5 [.slice X p.wh.length c,.slice none 0 0,I p.group] ?_;refine rX k 6 [(5,true),(4,false),(3,true)] g (h:=λf wb Hb=>⟨sL,?_⟩);refine cu k 7 _ Hb (h:=λwc F=>⟨sT,?_⟩);refine V0 ?_;exact aA (f,X,c) tR (by first | exact dz F At0 | exact dz F.aJ At0)
  refine jR k 6 [(4,false),(3,true),(1,false),(0,true)] M (h:=λf wd Hd=>⟨sL,?_⟩);refine dF k 2 [(4,false),(3,true)] Hd (yC (R.aK Hd.au) G) (h:=λvx we _ He kb=>?_);obtain⟨X,c,rfl,_,_⟩:=Sep.bX He At0;refine⟨sL,?_⟩;refine Gb k 5 [.slice X p.wh.length c,.slice none 0 0,I p.group] ?_;refine cu k 7 _ He (h:=λwf Hf=>⟨sT,?_⟩);refine V0 ?_;exact aA (f,X,c) tR (by first | exact dz Hf At0 | exact dz Hf.aJ At0)
 rintro⟨f,X,c⟩ τ wg Hg;dsimp only at Hg;refine Lp ?_;refine V4 ?_;have j:=vC (Sep.iX Hg 43 2 dV);refine aM (λx:Nat×(OA×Nat)×List (L8×Value)=>[(2,aC K),(3,aC f),(13,.slice A r.length m),(14,I r.length),(15,I x.1)]) (λx J=>(x.1<=r.length/\x.2.2.length=x.1)/\Mw.Sep w noB [AX x.2.2 (p.cols.take x.1),aY 43 2 dV (.slice x.2.1.1 x.2.2.length x.2.1.2) x.2.2,Eo (.slice X p.wh.length c) aQ 3 p.wh,blk f [.slice X p.wh.length c,.slice x.2.1.1 x.2.2.length x.2.1.2,I p.group] 32,blk K [.slice none 0 0,.slice none 0 0,I 0] 32] J) (λx _=>r.length-x.1) (0,(none,0),[]) tR ⟨⟨zai _,rfl⟩,j.firsts (l:=[_,_,_,_,_])⟩ (λx τ wi hI=>?_);obtain⟨i,⟨C,L⟩,q⟩:=x;obtain⟨⟨hi,D⟩,j⟩:=hI;dsimp only at hi D j;refine Lp ?_;refine Cz (λIe=>?_) (λIe=>?_)
 .have y:i<p.cols.length:=oM
  obtain⟨vx,hx,e⟩:=S.at y;have d:p.cols[i]? =some p.cols[i]:=zaa y;obtain⟨o,ho⟩: ∃o,o=p.cols[i]:=⟨_,rfl⟩;rw[<-ho]at hx e d;have Q:p.cols.take (i+1)=p.cols.take i++[o]:=by rw[zaq,d,zct]
  have P:=O o (zag d);have E:=e;obtain⟨V,cv,rfl,_,_⟩:=E;refine V0 ?_;refine Vv (ah.fT rfl rfl hA oM) (Vv (ah.iT rfl j hA hx) ?_);refine Az (λb5 wj Hi kc=>?_);refine Tz (λwk Hj=>?_);refine Dz (λn wl Hk=>?_);refine V6 ?_;refine dF n 6 [(3,false),(2,true),(1,false),(0,true)] Hk (yC (l:=o.steps) (e.aK Hk.au) P) (h:=λvy wm _ Hl kd=>?_);obtain⟨Y,s,rfl,_,_⟩:=Sep.bX Hl At0;refine⟨sL,?_⟩;refine Gb n 7 (dV (o.name,.slice Y o.steps.length s)) ?_;refine Gz n 8 [(1,false),(0,true)] Hl ([(o.name,Value.slice Y o.steps.length s)].flatMap dV) (h:=λbs wn Hm=>⟨sL,?_⟩);refine gZ n 9 _ Hm (news:=[(o.name,Value.slice Y o.steps.length s)]) At3 kP kN (λu hu=>zaz.1 (show([(o.name,Value.slice Y o.steps.length s)].flatMap dV).all Value.oneCell'=true from rfl) u hu) (h:=λv2 wo Hn=>?_);obtain⟨C2,c2,rfl,_,_⟩:=Sep.bX Hn At3;refine⟨sT,?_⟩;refine V1 ?_;refine mJ n 11 _ Hn (h:=λwp Ho=>⟨sT,?_⟩);refine V2 ?_;exact ak (i+1,(C2,c2),q++[(o.name,Value.slice Y o.steps.length s)]) tR ⟨⟨dO,by dsimp only;rw[zad,D];rfl⟩,by
  dsimp only;rw[Q];exact sK Ho.aJ.bN⟩ dO
 have t:p.cols.take i=p.cols:=zaj oM;refine V0 ?_;refine gF j (cs:=[.slice X p.wh.length c,.slice C q.length L,I p.group]) (h:=?_);refine Tz (λwq N=>?_);refine V0 ?_;rw[t]at N;have h1:=dz N.aJ At0;have h2:=Sep.jN (Z:=λw=>aP w (.slice C q.length L) dV 2 q/\qm w q p.cols) h1 (λw a b=>⟨a,b⟩);have h3:=Sep.jN (Z:=λw=>oI w (.slice X p.wh.length c) (.slice C q.length L) q p) h2.aJ (λw a b=>⟨a,b⟩);exact⟨_,gT N,(.slice X p.wh.length c,.slice C q.length L,q),rfl,trivial,h3.first.bf⟩
def KA (A:OA) (n c:Nat) (k:Nat):aX prog 103 [.slice A n c,aC k] w λu a=>∃b:Nat,u=.func (.func 104) #[] #[aC k,aC b]/\True/\cO noB (blk b [.slice A n c] 29) w a:=by
 have H:=Sep.aI w;refine dn func103 ?_;refine Sr (bK H (cs:=[.slice A n c]) rfl (h:=λb e S d=>?_));refine V3 ?_;exact⟨b,rfl,trivial,S.bf⟩
theorem Zp {b:Nat} {z:Kw} {kv fv:Value} {o1 o2 o3:Int} {cols outs:List bF} {p:aU} (hp:(dx (blk b (sV z p.group kv o1 o2 o3 fv) 126) (fA λw=>lY w z cols p outs)).ok F w) (hn:p.cols.length<=100):
    aX prog 62 [aC b] w λ_ R=>∃gv:Value,cO F (dx (blk b (sV z p.group kv o1 o2 o3 gv) 126) (fA λw=>lY w z cols p outs/\qb w b gv p)) w R:=by
  have H:=(Sep.dA hp).bW;obtain⟨cv,wv,pv,ov,r⟩:=z;have q:lY _ ⟨cv,wv,pv,ov,r⟩ cols p outs:=Sep.dh H At1;have hw0:aP _ wv aQ 3 p.wh:=q.2.1.1;have hr0:aP _ pv dV 2 r:=q.2.1.2.1;obtain⟨W,c,rfl,_,_⟩:=hw0;obtain⟨A,d,rfl,_,_⟩:=hr0;have EO:=q.2.1.2.2.len;dsimp only at EO;unfold sV at H ⊢;dsimp only at H ⊢;refine dL func62 ?_;refine Sr (bK H (cs:=[aC b]) rfl (h:=λk w2 H2 k1=>?_));refine Az (λf w6 H6 k5=>?_);refine Uz (λw8 H8=>?_);refine Qn (dU (λx:Value=>[(1,aC k),(2,.func (.func 103) #[] #[aC k]),(3,aC f)]) (λx R=>Mw.Sep w F [fA λw=>lY w ⟨cv,.slice W p.wh.length c,.slice A r.length d,ov,r⟩ cols p outs/\nI w k x p.wh,blk f [x] 169,blk k [aC b] 64,blk b (mU cv (.slice W p.wh.length c) (.slice A r.length d) p.group ov kv o1 o2 o3 fv) 126] R) ?_ ?_)
  . refine Cz (λIe=>?_) (λIe=>?_)
    . have D: ¬p.wh=[]:=λe=>by have h:=Ie;rw[e]at h;simp at h
      refine V6 ?_;refine fQ (fs:=[]) (cs:=[aC k]) (vals:=[.slice W p.wh.length c]) rfl (KA W p.wh.length c k) rfl rfl (λv' wa hv=>?_);obtain⟨S,rfl,_,s,F1,v,C⟩:=hv;have Ha:=H8.new s v (λb hb=>(C b hb).resolve_left id);refine Uz (λwb Hb=>?_);refine V0 ?_;have n:=Sep.look Hb At0 (X:=λw=>iB w S [.slice W p.wh.length c] 29) (λF w h=>h.2);have L:=Sep.jN (Z:=λw=>lY w ⟨cv,.slice W p.wh.length c,.slice A r.length d,ov,r⟩ cols p outs/\nI w k (.func (.func 104) #[] #[aC k,aC S]) p.wh) n.eZ (λw m g2=>⟨m,by unfold nI;rw[zab D];exact⟨S,_,rfl,g2,m.2.1.1⟩⟩);exact aA (.func (.func 104) #[] #[aC k,aC S]) tR L
    have D:p.wh=[]:=zbf oM;refine V0 ?_;have n:=Sep.qJ (Y:=λw=>lY w ⟨cv,.slice W p.wh.length c,.slice A r.length d,ov,r⟩ cols p outs/\nI w k (.func (.func 106) #[] #[]) p.wh) H8 At3 (λw h=>⟨h,by unfold nI;rw[zac D]⟩);exact aA (.func (.func 106) #[] #[]) tR n.bB
  rintro j τ wc Hc;refine Lp ?_;refine Az (λl wd Hd ka=>?_);refine V7 ?_;have E:=Sep.qJ (Y:=λw=>lY w ⟨cv,.slice W p.wh.length c,.slice A r.length d,ov,r⟩ cols p outs/\nI w k j p.wh/\o8 w k [] []) Hd At1 (λw h=>⟨h.1,h.2,o8.nil⟩);refine aM (λx:(OA×Nat)×LV×Nat=>[(1,aC k),(2,.func (.func 103) #[] #[aC k]),(3,aC f),(4,aC l),(26,.slice A r.length d),(27,I r.length),(28,I x.2.2)]) (λx R=>(x.2.2<=r.length/\x.2.1.length=x.2.2)/\Mw.Sep w F [blk l [.slice x.1.1 x.2.1.length x.1.2] 173,aY 169 1 zu (.slice x.1.1 x.2.1.length x.1.2) x.2.1,fA λw=>lY w ⟨cv,.slice W p.wh.length c,.slice A r.length d,ov,r⟩ cols p outs/\nI w k j p.wh/\o8 w k x.2.1 (p.cols.take x.2.2),blk f [j] 169,blk k [aC b] 64,blk b (mU cv (.slice W p.wh.length c) (.slice A r.length d) p.group ov kv o1 o2 o3 fv) 126] R) (λx _=>r.length-x.2.2) ((none,0),[],0) tR ⟨⟨zai _,rfl⟩,(Sep.iX E 169 1 zu).aJ⟩ (λx τ we hI=>?_);obtain⟨⟨G,J⟩,g,i⟩:=x;obtain⟨⟨hi,N⟩,E⟩:=hI;dsimp only at hi N E;refine Lp ?_;refine Cz (λIf=>?_) (λIf=>?_)
  . have t:i<p.cols.length:=oM
    have hPA:=(Sep.dh E At2).1.2.1;obtain⟨vx,hx,P⟩:=hPA.2.2.at t;have O:p.cols[i]? =some p.cols[i]:=zaa t;obtain⟨o,ho⟩: ∃o,o=p.cols[i]:=⟨_,rfl⟩;rw[<-ho]at hx P O;have htk:p.cols.take (i+1)=p.cols.take i++[o]:=by rw[zaq,O,zct]
    obtain⟨V,cV,rfl,_,_⟩:=P;refine V0 ?_;refine Vv (ah.fT rfl rfl (bJ (Sep.dh E At2).1.2.1.2.1) oM) (Vv (ah.iT rfl (Sep.aI _) (bJ (Sep.dh E At2).1.2.1.2.1) hx) ?_);refine Az (λb6 wf Hf kb=>?_);refine Tz (λwg Hg=>?_);refine Dz (λT wi Hh=>?_);refine V4 ?_;refine lH T 4 [(0,false)] (y:=.tmp 33) (fs:=[]) (cs:=[aC k]) (vals:=[.slice V o.steps.length cV]) rfl (KA V o.steps.length cV k) (h:=λv' wj hv=>?_);obtain⟨S,rfl,_,s,F1,v,C⟩:=hv;have Hi:=Hh.new s v (λb hb=>(C b hb).resolve_left id);refine⟨sL,?_⟩;refine Gz T 5 [(0,false)] Hi ([Value.func (.func 104) #[] #[aC k,aC S]].flatMap zu) (h:=λbq wk Hj=>⟨sL,?_⟩);refine gZ T 6 _ Hj (news:=[Value.func (.func 104) #[] #[aC k,aC S]]) At3 kJ kM (λu hu=>zaz.1 (show([Value.func (.func 104) #[] #[aC k,aC S]].flatMap zu).all Value.oneCell'=true from rfl) u hu) (h:=λv38 wl Hk=>?_);obtain⟨G2,c2,rfl,_,_⟩:=Sep.bX Hk At3;refine⟨sT,?_⟩;refine mJ T 7 _ Hk (h:=λwm Hl=>⟨sT,?_⟩);refine V0 ?_;refine Vc ((i+1:Nat):Int) ?_;refine V1 ?_;have n:=Sep.look Hl At0 (X:=λw=>iB w S [.slice V o.steps.length cV] 29) (λF w h=>h.2)
    have L:=Sep.jN (Z:=λw=>lY w ⟨cv,.slice W p.wh.length c,.slice A r.length d,ov,r⟩ cols p outs/\nI w k j p.wh/\o8 w k (g++[Value.func (.func 104) #[] #[aC k,aC S]]) (p.cols.take (i+1))) (n.aJ.bN.bB) (λw m g2=>⟨m.1,m.2.1,by
      rw[htk];refine m.2.2.push ⟨S,_,rfl,g2,?_⟩;obtain⟨vy,K,Q⟩:=m.1.2.1.2.2.at t;rw[<-ho,hx]at K;injection K with K
      injection K with _ K
      rw[<-ho,<-K]at Q;exact Q⟩)
    exact ak ((G2,c2),g++[Value.func (.func 104) #[] #[aC k,aC S]],i+1) tR ⟨⟨dO,by dsimp only;rw[zad,N];rfl⟩,L.aR.aR⟩ dO
  have M:p.cols.take i=p.cols:=zaj oM;refine V1 ?_;refine Vv (ah.makeFunc (us:=[]) (vs:=[aC k,aC f,aC l]) rfl rfl) (Uz (λwn Hm=>?_));refine V0 ?_;rw[M]at Hm;have n:=Sep.look Hm.aZ At0 (X:=λw=>iB w l [.slice G g.length J] 173/\aP w (.slice G g.length J) zu 1 g) (λF w h=>by obtain⟨F1,F2,_,_,a,b⟩:=h;exact⟨a.2,nH b⟩);have L:=Sep.jN (Z:=λw=>(lY w ⟨cv,.slice W p.wh.length c,.slice A r.length d,ov,r⟩ cols p outs/\nI w k j p.wh/\o8 w k g p.cols)/\iB w l [.slice G g.length J] 173/\aP w (.slice G g.length J) zu 1 g) n (λw a b=>⟨b,a⟩);have h3:=Sep.look L At1 (X:=λw=>iB w f [j] 169) (λF w h=>h.2);have h4:=Sep.jN (Z:=λw=>((lY w ⟨cv,.slice W p.wh.length c,.slice A r.length d,ov,r⟩ cols p outs/\nI w k j p.wh/\o8 w k g p.cols)/\iB w l [.slice G g.length J] 173/\aP w (.slice G g.length J) zu 1 g)/\iB w f [j] 169) h3 (λw a b=>⟨a,b⟩);have h5:=Sep.look h4 At1 (X:=λw=>iB w k [aC b] 64) (λF w h=>h.2);have h6:=Sep.jN (Z:=λw=>lY w ⟨cv,.slice W p.wh.length c,.slice A r.length d,ov,r⟩ cols p outs/\qb w b (.func (.func 107) #[] #[aC k,aC f,aC l]) p) h5 (λw a b=>⟨a.1.1.1,k,f,l,rfl,j,_,g,b,⟨a.2,a.1.1.2.1⟩,a.1.2,a.1.1.2.2⟩);exact⟨_,h6.aJ.aZ.first.bf⟩
def cellP (b o:Nat):Value:=.pointer (some ⟨b,o,none⟩)
variable {b:Nat} {cv wv pv ov kv fv:Value} {g o1 o2 o3:Int}
def BK {E:Td} (h:iB w b (mU cv wv pv g ov kv o1 o2 o3 fv) E):Rk prog 101 [cellP b 6] w (.bool (decide (o1≠0))):=by
 have H:=Sep.aI w;refine dL func101 ?_;refine V4 ?_;refine Vv (ah.ext (vals:=[cellP b 6]) (run_call_load (P:=prog) func169 kR kR kR .u32 kR (by rw[lu (h.aK H.au)];rfl))) ?_;refine V2 ?_;exact⟨rfl,H.au⟩
def adb (e:(blk b (mU cv wv pv g ov kv o1 0 o3 fv) 126).ok F w):aX prog 247 [cellP b 7] w λv w'=>v=.tuple #[]/\cO F (blk b (mU cv wv pv g ov kv o1 1 o3 fv) 126) w w':=by
 have H:=Sep.dA e;refine dL func247 ?_;refine Sr (Vv (ah.ext (vals:=[]) (run_call_mark0 (P:=prog) func311 kR kR kR .disable kR _)) (V3 ?_));obtain⟨d,k⟩: ∃f,f=World.setCell w ⟨b,7,none⟩ (.int .i32 1):=⟨_,rfl⟩;have S:Mw.Sep w F [blk b (mU cv wv pv g ov kv o1 1 o3 fv) 126] d:=by rw[k];exact Lj (o:=7) (v:=.int .i32 1) H At0 rfl
 refine eu (w':=d) (ah.ext (vals:=[cellP b 7,.int .i32 0,.int .i32 1]) (by rw[k];exact run_call_cas_hit (P:=prog) func312 kR kR kR .i32 kR IQ (AA (H.obj At0)))) rfl ?_;refine Qn (Cd rfl (λh=>?_) (λh=>?_))
 .refine zG (Cd rfl (λc=>?_) (λc=>?_))
  .refine Sr (Vv (ah.ext (vals:=[]) (run_call_mark0 (P:=prog) func313 kR kR kR .enable kR _)) (V1 ?_))
   refine Vv (ah.aa9 (a:=⟨b,7,none⟩) (run_convert_to_unsafe (P:=prog) (t:=119) kR kR kR (v:=.int .i32 1) (by rw[lu (S.obj At0)];rfl)) rfl) ?_;refine Vv (ah.ext (vals:=[cellP b 7]) (run_call_marked (P:=prog) func314 kR kR kR .acquire kR ⟨b,7,none⟩ _)) (V0 ?_);exact⟨rfl,S.bf⟩
  refine V0 ?_;exact⟨rfl,S.bf⟩
 exact Bool.noConfusion h
def Xe (m:(blk b (mU cv wv pv g ov kv o1 1 o3 fv) 126).ok F w):aX prog 248 [cellP b 7] w λv w'=>v=.tuple #[]/\cO F (blk b (mU cv wv pv g ov kv o1 0 o3 fv) 126) w w':=by
 have H:=Sep.dA m;refine dL func248 ?_;refine zG (Cd rfl (λS=>?_) (λS=>?_))
 .refine V3 ?_
  refine eP (H.obj At0) (h:=?_);refine V1 ?_;refine Vv (ah.aa9 (a:=⟨b,7,none⟩) (run_convert_to_unsafe (P:=prog) (t:=119) kR kR kR (v:=.int .i32 1) IQ) rfl) ?_;refine Vv (ah.ext (vals:=[cellP b 7]) (run_call_marked (P:=prog) func316 kR kR kR .releaseMerge kR ⟨b,7,none⟩ _)) (V0 ?_);refine Vv (ah.ext (vals:=[]) (run_call_mark0 (P:=prog) func311 kR kR kR .disable kR _)) (V3 ?_);obtain⟨f,k⟩: ∃c,c=World.setCell w ⟨b,7,none⟩ (.int .i32 0):=⟨_,rfl⟩;have j:Mw.Sep w F [blk b (mU cv wv pv g ov kv o1 0 o3 fv) 126] f:=by rw[k];exact Lj (o:=7) (v:=.int .i32 0) H At0 rfl
  refine eu (w':=f) (ah.ext (vals:=[cellP b 7,.int .i32 (-1)]) (by rw[k];exact run_call_add (P:=prog) func317 kR kR kR .i32 kR (x:=1) IQ (AA (H.obj At0)) (by simp[go_sem];rfl))) rfl ?_;refine Cz (λd=>?_) (λd=>?_)
  .exact zas rfl d
  refine V0 ?_;refine Vv (ah.ext (vals:=[]) (run_call_mark0 (P:=prog) func313 kR kR kR .enable kR _)) (V0 ?_);exact⟨rfl,j.bf⟩
 refine V3 ?_;obtain⟨i,k⟩: ∃c,c=World.setCell w ⟨b,7,none⟩ (.int .i32 0):=⟨_,rfl⟩;have l:Mw.Sep w F [blk b (mU cv wv pv g ov kv o1 0 o3 fv) 126] i:=by rw[k];exact Lj (o:=7) (v:=.int .i32 0) H At0 rfl
 refine eu (w':=i) (ah.ext (vals:=[cellP b 7,.int .i32 (-1)]) (by rw[k];exact run_call_add (P:=prog) func317 kR kR kR .i32 kR (x:=1) IQ (AA (H.obj At0)) (by simp[go_sem];rfl))) rfl ?_;refine Cz (λe=>?_) (λe=>?_)
 .exact zas rfl e
 refine V0 ?_;refine Vv (ah.ext (vals:=[]) (run_call_mark0 (P:=prog) func313 kR kR kR .enable kR _)) (V0 ?_);exact⟨rfl,l.bf⟩
def ahZ (k:(blk b (mU cv wv pv g ov kv o1 0 o3 fv) 126).ok F w):aX prog 170 [cellP b 7] w λv a=>v=.tuple #[]/\cO F (blk b (mU cv wv pv g ov kv o1 1 o3 fv) 126) w a:=by
 have H:=Sep.dA k;refine dL func170 ?_;refine V3 ?_;refine Nw H At0 (λc k _=>adb k) (h:=λd S=>?_);refine V0 ?_;exact⟨rfl,S.bf⟩
def Zq (k:(blk b (mU cv wv pv g ov kv o1 1 o3 fv) 126).ok F w):A8 prog 171 [cellP b 7] w λ_ a=>cO F (blk b (mU cv wv pv g ov kv o1 0 o3 fv) 126) w a:=by
 have H:=Sep.dA k;refine ajZ func171 ?_;refine V3 ?_;refine Nw H At0 (λc k _=>Xe k) (h:=λd S=>?_);refine yj (KE (h:=?_));exact⟨[],rfl,S.bf⟩
def ajK:Rk prog 250 [.bool true] w (.int .u32 1):=by
 have H:=Sep.aI w;refine dL func250 ?_;refine O2 ?_;refine Qn (Cd rfl (λh=>?_) (λh=>?_))
 .refine V1 ?_
  exact⟨rfl,H.au⟩
 exact Bool.noConfusion h
def ade (f:(blk b (mU cv wv pv g ov kv o1 o2 o3 fv) 126).ok F w):A8 prog 172 [cellP b 6,.bool true] w λ_ w'=>cO F (blk b (mU cv wv pv g ov kv 1 o2 o3 fv) 126) w w':=by
 have H:=Sep.dA f;refine aj0 func172 ?_;refine Dz (λk m d=>?_);refine V4 ?_;refine dS k 4 _ d ajK (h:=λj a l=>⟨sT,?_⟩);obtain⟨c,S⟩: ∃i,i=World.setCell j ⟨b,6,none⟩ (.int .u32 1):=⟨_,rfl⟩;have e:Mw.Sep w F [blk b (mU cv wv pv g ov kv 1 o2 o3 fv) 126] c:=by rw[S];exact Lj (o:=6) (v:=.int .u32 1) a At0 rfl
 refine als k 5 [] (w':=c) (vals:=[cellP b 6,.int .u32 1]) (by rw[S];exact run_call_store (P:=prog) func249 kR kR kR kR (u:=.int .u32 o1) (by rw[lu (a.obj At0)];rfl) (AA (a.obj At0))) (h:=⟨sT,?_⟩);refine fZ k kR ?_;refine KE (h:=?_);exact⟨[],rfl,e.bf⟩
variable {z:Kw} {cols outs:List bF} {p:aU}
def adf (o:(dx (blk b (sV z p.group kv 0 0 0 .nilFunc) 126) (fA λw=>lY w z cols p outs)).ok F w) (y:p.cols.length<=100):
    aX prog 102 [cellP b 6,.func (.func 62) #[aC b] #[]] w λ_ D=>∃g:Value,cO F (dx (blk b (sV z p.group kv 1 0 0 g) 126) (fA λw=>lY w z cols p outs/\qb w b g p)) w D:=by
  have H:=(Sep.dA o).bW;unfold sV at H;refine ajY func102 ?_;refine V3 ?_;refine Nw H At0 (λJ o _=>ahZ o) (h:=λQ x=>?_);refine V3 ?_;refine Xt (vals:=[cellP b 7]) (h:=?_);refine Kz (BK (x.obj At0)) (λE l C=>?_);refine Cz (λa=>?_) (λa=>?_)
  . refine V3 ?_
    refine Xt (vals:=[cellP b 6,.bool true]) (h:=?_);refine V1 ?_;obtain⟨u,S,_,k⟩:=(l.aZ).bG At0;refine fQ (fs:=[aC b]) (cs:=[]) (vals:=[]) rfl (Zp (z:=z) (cols:=cols) (p:=p) (outs:=outs) S y) rfl rfl (λL G A=>?_);obtain⟨g,c,j,e,f⟩:=A;have m:=(k _ j _ c e f).bW;refine yj (Xr (h:=?_));obtain⟨u,S,_,k⟩:=m.bG At0;unfold sV at S;refine⟨[],rfl,QY (A8.mono (ade S) λM O s=>?_)⟩;obtain⟨c,j,e,f⟩:=s;obtain⟨K,i,_,d⟩:=(k _ j _ c e f).bG At0;refine QY (A8.mono (Zq i) λN P t=>?_);obtain⟨n,v,q,r⟩:=t;exact⟨g,(d _ v _ n q r).aZ.bf⟩
  exact zas a sM
def afT (l:(dx (blk b (sV z p.group kv 0 0 0 .nilFunc) 126) (fA λw=>lY w z cols p outs)).ok F w) (j:p.cols.length<=100):
    aX prog 61 [cellP b 6,.func (.func 62) #[aC b] #[]] w λ_ n=>∃g:Value,cO F (dx (blk b (sV z p.group kv 1 0 0 g) 126) (fA λw=>lY w z cols p outs/\qb w b g p)) w n:=by
  have H:=Sep.dA l;refine dn func61 ?_;refine Kz (BK (H.bW.obj At0)) (λr f q=>?_);refine Cz (λk=>?_) (λk=>?_)
  . refine V2 ?_
    obtain⟨o,a,_,h⟩:=f.bG At0;refine aO (adf a j) rfl rfl (λv s m=>?_);obtain⟨g,S,e,c,d⟩:=m;have i:=h _ e _ S c d;refine V0 ?_;exact⟨g,i.bf⟩
  exact zas k sM
def ah0 {E:Td} {f:Value} (S:iB w b (sV z p.group kv 1 o2 o3 fv) E):aX prog 61 [cellP b 6,f] w λ_ a=>aS noB w a:=by
 have H:=Sep.aI w;refine dn func61 ?_;refine Kz (BK (S.aK H.au)) (λd k c=>?_);refine Cz (λh=>?_) (λh=>?_)
 .exact zas h sM
 refine V0 ?_;exact k.au
def ajL (m:(dx (blk b (sV z p.group kv o1 0 0 fv) 126) (fA λw=>lY w z cols p outs/\((o1=0/\fv=.nilFunc)\/(o1=1/\qb w b fv p)))).ok F w) (l:p.cols.length<=100):
    aX prog 61 [cellP b 6,.func (.func 62) #[aC b] #[]] w λ_ f=>∃g:Value,cO F (dx (blk b (sV z p.group kv 1 0 0 g) 126) (fA λw=>lY w z cols p outs/\qb w b g p)) w f:=by
  have H:=(Sep.dA m).bW
  rcases (Sep.dh H At1).2 with⟨rfl,rfl⟩ | ⟨rfl,_⟩
  . have S:=(Sep.qJ (Y:=λw=>lY w z cols p outs) H At1 λw h=>h.1).aZ
    obtain⟨o,c,_,k⟩:=S.bG At0;refine aX.mono (afT c l) λv f n=>?_;obtain⟨g,a,i,d,e⟩:=n;exact⟨g,(k _ i _ a d e).bf⟩
  have S:=(Sep.qJ (Y:=λw=>lY w z cols p outs/\qb w b fv p) H At1 λw h=>⟨h.1,h.2.elim (λh=>zas h.1 dC) λh=>h.2⟩);exact aX.mono (ah0 (z:=z) (p:=p) (kv:=kv) (S.obj At0)) λv f j=>⟨fv,(S.aK j).aZ.bf⟩
end Go.Proofs.Mw
