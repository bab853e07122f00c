/-
 The document's groups,of nothing:entries put in;walked.
-/
import Derived.Test.YtbkjpdboaclopaaGreatDoorNd26
set_option linter.all false
set_option maxRecDepth 4000
namespace Go.Proofs.Mw
open Go.Lib Go.Proofs.Tryz
attribute [local irreducible] FW FL FG FGn jJ jO fC lJ Qfn Gives
def Yk (sums:Nat) (k:List aC):List aC×List Int:=(k,List.replicate (sums+1) 0)
def amW (sums:Nat) (l:List bD) (k:List aC):List aC×List Int:=(k,dZ sums l k)
def qO (l:List bD) (key:List aC) (k:Nat):List Int:=(List.range k).map λq=>jL l key (q+1)
def aaO (l:List bD) (key:List aC) (k:Nat):qO l key k++[jL l key (k+1)]=qO l key (k+1):=by unfold qO;rw[List.range_succ,zak];rfl
def ae0 (sums:Nat) (l:List bD) (key:List aC):jL l key 0::qO l key sums=dZ sums l key:=by
 unfold qO dZ;rw[List.range_succ_eq_map,zav,zdj];rfl
def ae1 (l:List bD) (key:List aC) (k:Nat):(qO l key k).length=k:=by unfold qO;rw[zae,zeb]
def LD (keys sums:Nat) (l:List bD):Int:=if(l.all λx=>qA keys sums x)=false then 2 else if xw sums l=false then 50 else 0
def RL {keys sums:Nat} {l:List bD} {k:List aC} {i:Nat} (hm:(l.all λx=>qA keys sums x)=true) (hi:i<=sums) (hf:aY (jL l k i)≠true):LD keys sums l=50:=by
 have :xw sums l=false:=by
  cases h:xw sums l with
  | false=>rfl
  | true=>exact zas (uZ.1 h k i hi) hf
 unfold LD;rw[zaa (by rw[hm];decide),zac this]
def ahO {keys sums:Nat} {l:List bD} (hm:(l.all λx=>qA keys sums x)=true) (hf: ∀k∈fU l,∀i,i<=sums->aY (jL l k i)=true):LD keys sums l=0:=by
 have :xw sums l=true:=uZ.2 λk i hi=>by
  by_cases hk:k∈fU l
  .exact hf k hk i hi
  rw[uY (l:=l) λx hx e=>hk ((oO l).2 ⟨x,hx,e⟩)];exact abU
 unfold LD;rw[zaa (by rw[hm];decide),zaa (by rw[this];decide)]
def acH {o:Option Nat}:zR o<0↔o=none:=by
 cases o with
 | none=>exact⟨λ_=>rfl,λ_=>dC⟩
 | some i=>exact⟨λh=>by unfold zR at h;dsimp only at h;omega,λh=>by cases h⟩
variable {v:Value}
def acI {w0 w:Wd} {S:NP} {rs:List HP} {e n:Nat} (H:Mw.Sep w0 S (vF e 1 v n ((List.replicate n (0:Int)).flatMap oQ)::rs) w):Mw.Sep w0 S (aU e 1 oQ v (List.replicate n 0)::rs) w:=by
 unfold aU;rw[zcx];exact H
def ahP {α β:Type} {K:List α} {j:Nat} {k:α} (f g:α->β) (h:K[j]? =some k):((K.take j).map f++(K.drop j).map g).set j (f k)=(K.take (j+1)).map f++(K.drop (j+1)).map g:=by
 obtain⟨hj,e⟩:=zax.1 h;rw[zed _ _ (by rw[zae,zah];omega),zae,zah,zcp oM,zec,zbn hj,zav,zdf,zat,h,zcz,zak,zbm];rfl
def Yl (G:List oU):HP:=fP λw=>jY w G
def jY.push {w:Wd} {G:List oU} {g:oU} (h:jY w G) (h1:aJ w g.1 ah 3 g.2.2.1) (h2:aJ w g.2.1 oQ 1 (g.2.2.2.drop 1)):jY w (G++[g]):=λx hx=>by
 rcases zbk.1 hx with hx | hx
 .exact h x hx
 rw[zaw]at hx;subst hx;exact⟨h1,h2⟩
def jY.set {w:Wd} {G:List oU} {g:oU} (j:Nat) (h:jY w G) (h1:aJ w g.1 ah 3 g.2.2.1) (h2:aJ w g.2.1 oQ 1 (g.2.2.2.drop 1)):jY w (G.set j g):=λx hx=>by
 rcases List.mem_or_eq_of_mem_set hx with hx | hx
 .exact h x hx
 subst hx;exact⟨h1,h2⟩
variable {w:Wd} {F:NP}
set_option maxHeartbeats 1000000 in
theorem UH {bg keys sums:Nat} {Z:List xC} (hp:(blk bg (zi keys sums (.slice none 0 0)) 201).ok F w)
    (hv: ∀w1,Kept F w w1->aJ w1 v qC 3 Z) (hZ: ∀w1,Kept F w w1->zh w1 Z) (hkm:keys<=16) (Kw:sums<=16) (hf: ∀z∈Z,fits z.2.2.w/\∀c∈z.2.2.vals,fits c.n) (hn:Z.length<=100):
    aQ Tryz.prog 77 [av bg,v] w λu w'=>∃(x gv:Value) (G:List oU),u=.tuple #[x,I (LD keys sums (Z.map (·.2.2)))]/\(LD keys sums (Z.map (·.2.2))=0->G.map (·.2.2)=ag0 sums (Z.map (·.2.2)) (fU (Z.map (·.2.2))))/\
      Turn F (star (blk bg (zi keys sums gv) 201) (fP λw=>aJ w gv grC 3 G/\jY w G)) w w':=by
  have H:=Sep.bW hp;obtain⟨gl,Kt⟩: ∃gl,gl=Z.map (λz=>z.2.2):=⟨_,rfl⟩;rw[<-Kt];have hgn:gl.length<=100:=by rw[Kt,zae];exact hn
  have Qj:=zn gl;obtain⟨A,m,rfl,⟨hm,nX⟩,_⟩:=hv w (Kept.refl _ _);refine bU Tryz.func77 ?_;refine V3 ?_;refine aI (λi:Nat=>[(0,av bg),(1,.slice A Z.length m),(6,I i)]) (λi w'=>(i<=Z.length/\∀z∈Z.take i,qA keys sums z.2.2=true)/\Mw.Sep w F [blk bg (zi keys sums (.slice none 0 0)) 201] w') (λi _=>Z.length-i) 0 tR ⟨⟨zai _,λz hz=>zas hz zam⟩,H⟩ (λi τ w5 hI=>?_);obtain⟨⟨hi,hmi⟩,H5⟩:=hI;refine Lp ?_;refine Cz (λIe=>?_) (λIe=>?_)
  . have aX:i<Z.length:=oM
    obtain⟨z,hz⟩:=get_some aX;have Pp:=zag hz;refine V3 ?_;refine Vv (Gives.fA rfl rfl (eX (hv _ H5.kept)) aX) (Vv (Gives.iA rfl (Sep.aH _) (eX (hv _ H5.kept)) hz) ?_);refine Kz (aaD (H5.obj At0) (hZ _ H5.kept _ Pp).1 (hZ _ H5.kept _ Pp).2) (λwa Ha ka=>?_);refine Vv (Gives.not rfl) (Qn ?_);refine Cd rfl (λIf=>?_) (λIf=>?_)
    . have jV:LD keys sums gl=2:=by
        unfold LD;rw[zac];have hf:qA keys sums z.2.2=false:=by simpa using If
        rw[Kt,zgg];exact List.all_eq_false.2 ⟨z,Pp,by show ¬qA keys sums z.2.2=true;rw[hf];decide⟩
      refine V2 ?_;exact⟨_,.slice none 0 0,[],by rw[jV];rfl,λh=>zas (jV.symm.trans h) dC,(Sep.qL Ha (X:=λw=>aJ w (.slice none 0 0) grC 3 []/\jY w []) (λw=>⟨qo _ _ _,λg hg=>zas hg zam⟩)).aF.aR.turn⟩
    have Lh:qA keys sums z.2.2=true:=by simpa using If
    refine V1 ?_;refine Vc ((i+1:Nat):Int) ?_;refine V1 ?_;exact aj (i+1) tR ⟨⟨oM,λy hy=>by
    rw[zat,hz]at hy
    rcases zbk.1 hy with hy | hy
    . exact hmi y hy
    rw[zcz,zaw]at hy;rw[hy];exact Lh⟩,Ha⟩ oM
  have jG:Z.take i=Z:=zaj oM;rw[jG]at hmi
  have yI:(gl.all λx=>qA keys sums x)=true:=by
    rw[Kt,zgg,zba];exact λz hz=>hmi z hz
  have hmz: ∀z∈Z,z.2.2.key.length=keys/\z.2.2.vals.length=sums:=λz hz=>by
    have:=hmi z hz;unfold qA at this;rw[zbr,decide_eq_true_iff]at this;exact this.1
  refine V6 ?_;refine Ri (v:=.slice none 0 0) (k:=0) (m:=0) (c:=0) (xs:=[]) (news:=[]) (A:=none) (Sep.iW H5 206 3 grC) rfl rfl At0 (gZ.nil _ _ _) (λu hu=>zas hu zam) (h63:=by decide) (hbytes:=by decide) (h:=?_);intro v37 wb Hb;obtain⟨X0,cX0,rfl,_,_⟩:=Sep.bH (l:=([]:List oU)) (enc:=grC) Hb At0;refine V2 ?_;refine aI (λx:(OA×Nat)×List oU×Nat=>[(0,av bg),(1,.slice A Z.length m),(7,.slice x.1.1 x.2.1.length x.1.2),(8,I x.2.2)]) (λx w'=>(x.2.2<=Z.length/\x.2.1.map (·.2.2)=(fU ((Z.take x.2.2).map (·.2.2))).map (Yk sums))/\Mw.Sep w F [aU 206 3 grC (.slice x.1.1 x.2.1.length x.1.2) x.2.1,Yl x.2.1,blk bg (zi keys sums (.slice none 0 0)) 201] w') (λx _=>Z.length-x.2.2) ((X0,cX0),[],0) tR ⟨⟨zai _,rfl⟩,(Sep.qL Hb (X:=λw=>jY w []) (λw g hg=>zas hg zam)).aF⟩ (λx τ wc hI=>?_);obtain⟨⟨X,cX⟩,G,i⟩:=x;obtain⟨⟨hi,Zm⟩,Hc⟩:=hI;dsimp only at hi Zm Hc
  have hGl:G.length<=i:=by
    have h1:=zay List.length Zm;rw[zae,zae]at h1;have h2:=zn ((Z.take i).map (·.2.2));rw[zae,zah]at h2;omega
  have hGk:G.map (·.2.2.1)=fU ((Z.take i).map (·.2.2)):=by
    have h1:=zay (List.map Prod.fst) Zm;rw[zdj,zdj]at h1;rw[show((λg:oU=>g.2.2.1))=Prod.fst∘(λg:oU=>g.2.2)from rfl,h1];exact List.map_id _
  refine Lp ?_;refine Cz (λIg=>?_) (λIg=>?_)
  . have aX:i<Z.length:=oM
    obtain⟨z,hz⟩:=get_some aX;have Pp:=zag hz;have hT1:(Z.take (i+1)).map (λz=>z.2.2)=(Z.take i).map (λz=>z.2.2)++[z.2.2]:=by rw[zat,hz,zak];rfl
    obtain⟨kv,vv,e⟩:=z;have hkw: ∀w1,Kept F w w1->aJ w1 kv ah 3 e.key:=λw1 h1=>(hZ w1 h1 _ Pp).1;have hek:e.key.length<=16:=by have:=(hmz _ Pp).1;dsimp only at this;omega
    dsimp only at hT1;refine V3 ?_;refine Vv (Gives.fA rfl rfl (eX (hv _ Hc.kept)) aX) (V1 ?_);refine Vv (Gives.dG (f:=0) rfl (Sep.aH _) (eX (hv _ Hc.kept)) hz rfl) (Kz (ahG (jq Hc At0) (Sep.sees Hc At1) (hkw _ Hc.kept)) (λwd Hd kb=>?_));refine Vl ?_;refine Cz (λIh=>?_) (λIh=>?_)
    . have mE:e.key∉fU ((Z.take i).map λz=>z.2.2):=λhm=>by
        rw[<-hGk]at hm;obtain⟨g,hg,e2⟩:=zar.1 hm;exact zda.1 (acH.1 Ih) g hg |> λh=>by simp[e2]at h
      refine Dz (λSa we He=>?_);refine V3 ?_;refine Gp Sa 3 rfl rfl (λ_=>(Gives.fA rfl rfl (eX (hv _ He.kept)) aX)) (V1 ?_);refine GS (Gt rfl (Gives.dG (f:=0) rfl (Sep.aH _) (eX (hv _ He.kept)) hz rfl) ?_);refine Gm Sa 7 ?_;refine V3 ?_;refine jQ Sa (e1:=6) (e2:=11) kR ?_ ?_
      . refine j3 Sa 6 [(10,false),(9,true),(8,true),(7,true),(0,true)] He (mM (hkw _ He.kept) oM) (h:=λy wf _ Hf kc=>?_)
        obtain⟨Y,cy,rfl,_,_⟩:=Sep.bH Hf At0;refine⟨sL,?_⟩;refine acE (t:=204) Sa 11 _ Hf (k:=sums) (cs:=(List.replicate sums (0:Int)).flatMap oQ) (hcs:=by exact rZ (enc:=oQ) dC 0 sums) (hk:=by unfold maxLen;omega) (hb:=by omega) (h:=λbw wg Hg=>?_);have Hg:=acI (Sep.nU (n:=sums) (s:=1) Hg At0 (by rw[jw (jd.len (enc:=oQ) (k:=1)),zcx]) (by unfold maxLen;omega));refine⟨sT,?_⟩;refine Gb Sa 12 (grC (.slice Y e.key.length cy,.slice (some ⟨bw,0,none⟩) sums sums,e.key,List.replicate (sums+1) 0)) ?_;refine Gz Sa 13 _ Hg ([((.slice Y e.key.length cy,.slice (some ⟨bw,0,none⟩) sums sums,e.key,List.replicate (sums+1) 0):oU)].flatMap grC) (h:=λbq wh Hh=>⟨sT,?_⟩);refine gH Sa 14 _ Hh (news:=[((.slice Y e.key.length cy,.slice (some ⟨bw,0,none⟩) sums sums,e.key,List.replicate (sums+1) 0):oU)]) At2 (by unfold maxLen;simp only[zaf];omega) (by simp only[zaf];omega) (λu hu=>zba.1 (show([((.slice Y e.key.length cy,.slice (some ⟨bw,0,none⟩) sums sums,e.key,List.replicate (sums+1) 0):oU)].flatMap grC).all Value.oneCell'=true from rfl) u hu) (h:=λv66 wi Hi=>?_);obtain⟨X2,cX2,rfl,_,_⟩:=Sep.bH Hi At2;refine⟨sT,?_⟩;refine tq Sa 15 _ (h:=⟨sT,?_⟩);refine V1 ?_;refine Vc ((i+1:Nat):Int) ?_;refine V1 ?_;have h1:Mw.Sep w F [aU 2 1 oQ (.slice (some ⟨bw,0,none⟩) sums sums) (List.replicate sums 0),aU 47 3 ah (.slice Y e.key.length cy) e.key,aU 206 3 grC (.slice X2 (G++[((.slice Y e.key.length cy,.slice (some ⟨bw,0,none⟩) sums sums,e.key,List.replicate (sums+1) 0):oU)]).length cX2) (G++[((.slice Y e.key.length cy,.slice (some ⟨bw,0,none⟩) sums sums,e.key,List.replicate (sums+1) 0):oU)]),Yl G,blk bg (zi keys sums (.slice none 0 0)) 201] wi:=by first | exact Hi | exact Hi.aF
        have h2:=dY (dY h1 At0) At1;have h3:=Sep.mh (Z:=λw=>aJ w (.slice Y e.key.length cy) ah 3 e.key/\aJ w (.slice (some ⟨bw,0,none⟩) sums sums) oQ 1 (List.replicate sums 0)) h2 (λw a b=>⟨b,a⟩);have h4:=Sep.mh (Z:=λw=>jY w (G++[((.slice Y e.key.length cy,.slice (some ⟨bw,0,none⟩) sums sums,e.key,List.replicate (sums+1) 0):oU)])) h3.aO (λw a b=>a.push b.1 b.2);exact aj ((X2,cX2),G++[(.slice Y e.key.length cy,.slice (some ⟨bw,0,none⟩) sums sums,e.key,List.replicate (sums+1) 0)],i+1) tR ⟨⟨dO,by dsimp only;rw[hT1,oh,zaa mE,zak,zak,Zm];rfl⟩,h4.aF⟩ dO
      refine NJ (t:=204) Sa 11 [(5,false),(4,true),(3,true),(2,true),(1,true),(0,true)] He (k:=sums) (cs:=(List.replicate sums (0:Int)).flatMap oQ) (hcs:=by exact rZ (enc:=oQ) dC 0 sums) (hk:=by unfold maxLen;omega) (hb:=by omega) (h:=λbw wj Hj=>?_);have Hj:=acI (Sep.nU (n:=sums) (s:=1) Hj At0 (by rw[jw (jd.len (enc:=oQ) (k:=1)),zcx]) (by unfold maxLen;omega));refine⟨(bQ rfl kR (Gives.dG (f:=0) rfl (Sep.aH _) (eX (hv _ Hj.kept)) hz rfl) rfl (ay (ay (ay (ay (ay (eF))))))),?_⟩;refine eB Sa 6 _ Hj (mM (hkw _ Hj.kept) oM) (h:=λy wk _ Hk kd=>?_);obtain⟨Y,cy,rfl,_,_⟩:=Sep.bH Hk At0;refine⟨sT,?_⟩;refine Gb Sa 12 (grC (.slice Y e.key.length cy,.slice (some ⟨bw,0,none⟩) sums sums,e.key,List.replicate (sums+1) 0)) ?_;refine Gz Sa 13 _ Hk ([((.slice Y e.key.length cy,.slice (some ⟨bw,0,none⟩) sums sums,e.key,List.replicate (sums+1) 0):oU)].flatMap grC) (h:=λbq wl Hl=>⟨sT,?_⟩);refine gH Sa 14 _ Hl (news:=[((.slice Y e.key.length cy,.slice (some ⟨bw,0,none⟩) sums sums,e.key,List.replicate (sums+1) 0):oU)]) At2 (by unfold maxLen;simp only[zaf];omega) (by simp only[zaf];omega) (λu hu=>zba.1 (show([((.slice Y e.key.length cy,.slice (some ⟨bw,0,none⟩) sums sums,e.key,List.replicate (sums+1) 0):oU)].flatMap grC).all Value.oneCell'=true from rfl) u hu) (h:=λv66 wm Hm=>?_);obtain⟨X2,cX2,rfl,_,_⟩:=Sep.bH Hm At2;refine⟨sT,?_⟩;refine tq Sa 15 _ (h:=⟨sT,?_⟩);refine V1 ?_
      refine Vc ((i+1:Nat):Int) ?_;refine V1 ?_;have h1:Mw.Sep w F [aU 2 1 oQ (.slice (some ⟨bw,0,none⟩) sums sums) (List.replicate sums 0),aU 47 3 ah (.slice Y e.key.length cy) e.key,aU 206 3 grC (.slice X2 (G++[((.slice Y e.key.length cy,.slice (some ⟨bw,0,none⟩) sums sums,e.key,List.replicate (sums+1) 0):oU)]).length cX2) (G++[((.slice Y e.key.length cy,.slice (some ⟨bw,0,none⟩) sums sums,e.key,List.replicate (sums+1) 0):oU)]),Yl G,blk bg (zi keys sums (.slice none 0 0)) 201] wm:=by first | exact Hm | exact Hm.aF
      have h2:=dY (dY h1 At0) At1;have h3:=Sep.mh (Z:=λw=>aJ w (.slice Y e.key.length cy) ah 3 e.key/\aJ w (.slice (some ⟨bw,0,none⟩) sums sums) oQ 1 (List.replicate sums 0)) h2 (λw a b=>⟨b,a⟩);have h4:=Sep.mh (Z:=λw=>jY w (G++[((.slice Y e.key.length cy,.slice (some ⟨bw,0,none⟩) sums sums,e.key,List.replicate (sums+1) 0):oU)])) h3.aO (λw a b=>a.push b.1 b.2);exact aj ((X2,cX2),G++[(.slice Y e.key.length cy,.slice (some ⟨bw,0,none⟩) sums sums,e.key,List.replicate (sums+1) 0)],i+1) tR ⟨⟨dO,by dsimp only;rw[hT1,oh,zaa mE,zak,zak,Zm];rfl⟩,h4.aF⟩ dO
    have Fh:e.key∈fU ((Z.take i).map λz=>z.2.2):=Classical.byContradiction λhm=>Ih (acH.2 (zda.2 λg hg=>by
      refine zal λe2=>hm ?_;rw[<-hGk,<-e2];exact zar.2 ⟨g,hg,rfl⟩))
    refine V1 ?_;refine Vc ((i+1:Nat):Int) ?_;refine V1 ?_;exact aj ((X,cX),G,i+1) tR ⟨⟨dO,by dsimp only;rw[hT1,oh,zac Fh];exact Zm⟩,Hd⟩ dO
  have jG:Z.take i=Z:=zaj oM;rw[jG,<-Kt]at Zm hGk;refine V1 ?_;refine aI (λx:List oU×Nat=>[(0,av bg),(1,.slice A Z.length m),(7,.slice X x.1.length cX),(9,I x.2)]) (λx w'=>(x.2<=x.1.length/\x.1.length=(fU gl).length/\x.1.map (·.2.2)=((fU gl).take x.2).map (amW sums gl)++((fU gl).drop x.2).map (Yk sums)/\∀k∈(fU gl).take x.2,∀i,i<=sums->aY (jL gl k i)=true)/\Mw.Sep w F [aU 206 3 grC (.slice X x.1.length cX) x.1,Yl x.1,blk bg (zi keys sums (.slice none 0 0)) 201] w') (λx _=>x.1.length-x.2) (G,0) tR ⟨⟨zai _,by have h1:=zay List.length Zm;rw[zae,zae]at h1;exact h1,by rw[zdh,zde];exact Zm,λk hk=>zas hk (by rw[zdh];exact zam)⟩,Hc⟩ (λx τ wn hI=>?_);clear Zm hGk;obtain⟨G,j⟩:=x;obtain⟨⟨hj,aqj,Zm,hfj⟩,Hn⟩:=hI;dsimp only at hj aqj Zm hfj Hn;refine Lp ?_;refine Cz (λIi=>?_) (λIi=>?_)
  . have aX:j<G.length:=oM
    obtain⟨key,hkj⟩:=get_some (l:=fU gl) (show j<(fU gl).length from oM);obtain⟨gj,hgj⟩:=get_some aX;have hgm:=zag hgj
    have hgz:gj.2.2=Yk sums key:=by
      have h1:(G.map (·.2.2))[j]? =(((fU gl).take j).map (amW sums gl)++((fU gl).drop j).map (Yk sums))[j]? :=by rw[Zm]
      rw[zbz,hgj,zby (by rw[zae,zah];omega),zae,zah,zcp oM,zec,zbz,zcj,zfb,hkj]at h1;injection h1
    obtain⟨kv,sv,key2,ns2⟩:=gj;injection hgz with e1 e2
    subst e1;subst e2;have VF:jY _ G:=Sep.sees Hn At1;have an0:aJ _ kv ah 3 key2:=(VF _ hgm).1;have an1:aJ _ sv oQ 1 ((List.replicate (sums+1) (0:Int)).drop 1):=(VF _ hgm).2;obtain⟨K,ck,rfl,_,_⟩:=an0;obtain⟨V,cV,rfl,_,_⟩:=an1
    have hkl:key2.length<=16:=by
      obtain⟨x,hx,e⟩:=(oO gl).1 (zag hkj);rw[Kt]at hx;obtain⟨z,hz,rfl⟩:=zar.1 hx;have:=(hmz z hz).1;rw[<-e];omega
    have hvl:((List.replicate (sums+1) (0:Int)).drop 1).length=sums:=by rw[zbo,zcx];omega
    obtain⟨T0,hT0⟩: ∃T0,T0=jL gl key2 0:=⟨_,rfl⟩;refine V2 ?_;refine Vv (Gives.fA rfl rfl (dP Hn At0) aX) (Vv (Gives.pF rfl (dP Hn At0) hgj) ?_);refine Az (λb10 wo Ho ke=>?_);refine Tz (λwp Hp=>?_);refine Kz (akv (base:=0) 0 (hv _ Hp.kept) (hZ _ Hp.kept) (Sep.sees Hp At2 _ hgm).1 oM ⟨dC,dC⟩ hf (λz hz=>oM)) (λwq Hq kf=>?_);rw[<-Kt,Int.zero_add,<-hT0];obtain⟨n1,AZ⟩: ∃n1:Int,n1=if aY T0=true then T0 else 0:=⟨_,rfl⟩
    obtain⟨e1,Lj⟩: ∃e1:Int,e1=if aY T0=true then 0 else 50:=⟨_,rfl⟩
    rw[<-AZ,<-Lj];refine Cz (λIj=>?_) (λIj=>?_)
    . have Zb:aY T0≠true:=λh=>Ij (by rw[Lj,zac h])
      rw[zaa Zb]at Lj;have jV:LD keys sums gl=50:=RL (i:=0) yI (zai _) (by rw[<-hT0];exact Zb);refine V3 ?_;subst Lj;exact⟨_,.slice none 0 0,[],by rw[jV];rfl,λh=>zas (jV.symm.trans h) dC,(Sep.qL (Hq.aS.first) (X:=λw=>aJ w (.slice none 0 0) grC 3 []/\jY w []) (λw=>⟨qo _ _ _,λg hg=>zas hg zam⟩)).aF.aR.turn⟩
    have he0:e1=0:=Decidable.of_not_not Ij
    have Zb:aY T0=true:=by
      cases h:aY T0 with
      | true=>rfl
      | false=>rw[h,zaa dC]at Lj;omega
    rw[zac Zb]at AZ;refine V2 ?_;refine aI (λx:(OA×Nat)×Nat=>[(0,av bg),(1,.slice A Z.length m),(7,.slice X G.length cX),(9,I j),(10,av b10),(11,I n1),(13,.slice x.1.1 (qO gl key2 x.2).length x.1.2),(14,I x.2)]) (λx w'=>(x.2<=sums/\∀q,q<x.2->aY (jL gl key2 (q+1))=true)/\Mw.Sep w F [aU 2 1 oQ (.slice x.1.1 (qO gl key2 x.2).length x.1.2) (qO gl key2 x.2),blk b10 (grC (.slice K key2.length ck,.slice V ((List.replicate (sums+1) (0:Int)).drop 1).length cV,key2,List.replicate (sums+1) 0)) 206,aU 206 3 grC (.slice X G.length cX) G,Yl G,blk bg (zi keys sums (.slice none 0 0)) 201] w') (λx _=>sums-x.2) ((none,0),0) tR ⟨⟨zai _,λq hq=>oM⟩,Sep.iW Hq 2 1 oQ⟩ (λx τ wr hI=>?_);obtain⟨⟨S0,cS⟩,q⟩:=x;obtain⟨⟨hq,hfq⟩,Hr⟩:=hI;dsimp only at hq hfq Hr;have YS:=ae1 gl key2 q;refine Lp ?_;refine Cz (λIk=>?_) (λIk=>?_)
    . have awp:q<sums:=oM
      have hzq:((List.replicate (sums+1) (0:Int)).drop 1)[q]? =some 0:=by rw[zcj,List.getElem?_replicate,zac oM]
      obtain⟨T1,hT1⟩: ∃T1,T1=jL gl key2 (q+1):=⟨_,rfl⟩;refine Dz (λSb ws Hs=>?_);refine V3 ?_;refine GS (Gn rfl (λ_=>Gives.fA rfl rfl (eX (Sep.sees Hs At3 _ hgm).2) oM) ?_);refine GS (Gt rfl (Gives.dG (f:=0) rfl (Sep.aH _) (eX (Sep.sees Hs At3 _ hgm).2) hzq rfl) ?_);refine V4 ?_;refine dA Sb 9 _ Hs (akw (base:=0) q (hv _ Hs.kept) (hZ _ Hs.kept) (Sep.sees Hs At3 _ hgm).1 oM ⟨dC,dC⟩ hf (λz hz=>by have:=(hmz z hz).2;omega)) (h:=λwt Ht kg=>?_);rw[<-Kt,Int.zero_add,<-hT1];obtain⟨n2,Ms⟩: ∃n2:Int,n2=if aY T1=true then T1 else 0:=⟨_,rfl⟩
      obtain⟨e2,VD⟩: ∃e2:Int,e2=if aY T1=true then 0 else 50:=⟨_,rfl⟩
      rw[<-Ms,<-VD];refine⟨sT,?_⟩;refine Cz (λIl=>?_) (λIl=>?_)
      . have ajq:aY T1≠true:=λh=>Il (by rw[VD,zac h])
        rw[zaa ajq]at VD;have jV:LD keys sums gl=50:=RL (i:=q+1) yI oM (by rw[<-hT1];exact ajq);refine V3 ?_;subst VD;exact⟨_,.slice none 0 0,[],by rw[jV];rfl,λh=>zas (jV.symm.trans h) dC,(Sep.qL (Ht.gu.first) (X:=λw=>aJ w (.slice none 0 0) grC 3 []/\jY w []) (λw=>⟨qo _ _ _,λg hg=>zas hg zam⟩)).aF.aR.turn⟩
      have he0:e2=0:=Decidable.of_not_not Il
      have ajq:aY T1=true:=by
        cases h:aY T1 with
        | true=>rfl
        | false=>rw[h,zaa dC]at VD;omega
      rw[zac ajq]at Ms;have Px:qO gl key2 q++[n2]=qO gl key2 (q+1):=by rw[Ms,hT1];exact aaO gl key2 q
      refine V2 ?_;refine Bs Ht ([n2].flatMap oQ) (λbq wu Hu kh=>?_);refine dJ Hu (news:=[n2]) At0 (by unfold maxLen;simp only[zaf];omega) (by simp only[zaf];omega) (cells_one (λ_=>rfl) _) (h:=?_);intro v116 wv Hv;rw[Px]at Hv;obtain⟨S2,cS2,rfl,_,_⟩:=Sep.bH Hv At0;refine V2 ?_;refine Vc ((q+1:Nat):Int) ?_;refine V1 ?_;exact aj ((S2,cS2),q+1) tR ⟨⟨dO,λp hp=>by
      dsimp only at hp
      by_cases e:p=q
      . rw[e,<-hT1];exact ajq
      exact hfq p oM⟩,Hv⟩ dO
    have hqs:q=sums:=oM;subst hqs;refine V6 ?_;refine dD (Gives.build (out:=grC (.slice K key2.length ck,.slice S0 (qO gl key2 q).length cS,key2,dZ q gl key2)) (by
    have e:grC ((.slice K key2.length ck,.slice S0 (qO gl key2 q).length cS,key2,dZ q gl key2):oU)=[.slice K key2.length ck,I n1,.slice S0 (qO gl key2 q).length cS]:=by unfold grC;rw[AZ,hT0];dsimp only;rw[z8]
    rw[e];exact Fills.one rfl rfl rfl sM rfl (Fills.one rfl rfl rfl sM rfl (Fills.one rfl rfl rfl sM rfl Fills.nil)))) rfl ?_
    refine Vv (Gives.fA rfl rfl (dP Hr At2) aX) (rP (i:=j) (a':=((.slice K key2.length ck,.slice S0 (qO gl key2 q).length cS,key2,dZ q gl key2):oU)) rfl Hr At2 aX rfl (h:=λww Hw=>?_));refine V1 ?_;refine Vc ((j+1:Nat):Int) ?_;refine V1 ?_;have hdr:(dZ q gl key2).drop 1=qO gl key2 q:=by rw[<-ae0];rfl
    have h1:=dY Hw At0;have h2:=Sep.mh (Z:=λw=>jY w (G.set j ((.slice K key2.length ck,.slice S0 (qO gl key2 q).length cS,key2,dZ q gl key2):oU))) (h1.aF.bI.aO) (λw a b=>a.set j (a _ hgm).1 (by dsimp only;rw[hdr];exact b))
    exact aj (G.set j (.slice K key2.length ck,.slice S0 (qO gl key2 q).length cS,key2,dZ q gl key2),j+1) ⟨rfl,rfl,by dsimp only;rw[zcy];rfl,rfl,trivial⟩ ⟨⟨by dsimp only;rw[zcy];omega,by dsimp only;rw[zcy];exact aqj,by
      dsimp only;rw[List.map_set,Zm];exact ahP (amW q gl) (Yk q) hkj,λk hk i hi=>by
      dsimp only at hk;rw[zat,hkj]at hk
      rcases zbk.1 hk with hk | hk
      . exact hfj k hk i hi
      . rw[zcz,zaw]at hk
        rw[hk];cases i with
        | zero=>rw[<-hT0];exact Zb
        | succ p=>exact hfq p oM⟩,by
      dsimp only;rw[zcy];exact h2.aF⟩ (by dsimp only;rw[zcy];omega)
  have jG:(fU gl).take j=fU gl:=zaj oM;have hdl:(fU gl).drop j=[]:=List.drop_eq_nil_of_le oM;rw[jG,hdl,zci,zbt]at Zm;rw[jG]at hfj;have amg:=ahO (keys:=keys) yI hfj;have hGe:G.map (·.2.2)=ag0 sums gl (fU gl):=Zm;refine V4 ?_
  have hgs: ∀g∈G,g.2.2.1.length<=16/\g.2.2.2.length<=17:=λg hg=>by
    have h1:g.2.2∈G.map (·.2.2):=zdp hg;rw[hGe]at h1;obtain⟨k,hk,e⟩:=zar.1 h1;obtain⟨x,hx,e2⟩:=(oO gl).1 hk;rw[Kt]at hx;obtain⟨z,hz,rfl⟩:=zar.1 hx;have h3:=(hmz z hz).1;rw[<-e];exact⟨by dsimp only;rw[<-e2];omega,by dsimp only;rw[lI];omega⟩
  refine Nz (NT (G:=[]) (-1) (qo _ _ _) (λg hg=>zas hg zam) (zai _) (λg hg=>zas hg zam)) (λy wx hy Hx ki=>?_);obtain⟨yv,Ly⟩:=y;dsimp only at hy Hx ⊢;refine Mv ?_;refine Nz (NT (G:=G) 1 (jq Hx At1) (Sep.sees Hx At2) oM (λg hg=>by have:=hgs g hg;omega)) (λy wy hz Hy kj=>?_);obtain⟨zv,Lz⟩:=y;dsimp only at hz Hy ⊢;have hyl:Ly=[]:=zgc.1 hy;subst hyl
  have hzl:Lz.length<=100:=by
    have h1:=zay List.length hz;rw[zae]at h1;have h2:=Dt 1 (G.map (·.2.2));rw[zae]at h2;omega
  refine aaI Hy (by simp only[zcd];omega) (h:=?_);intro v133 wz Hz;rw[zbw]at Hz
  have hro: ∀o∈Lz.map (·.2),fits o.w/\o.row.length<=1000:=λo ho=>by
    rw[hz]at ho;obtain⟨g2,Vk,e1,e2⟩:=JR ho;obtain⟨g,hg,rfl⟩:=zar.1 Vk;have h3:=hgs g hg;exact⟨by rw[e2];exact⟨dC,dC⟩,by rw[e1,zad,zae];omega⟩
  refine Nz (BU (gU Hz At0) (by rw[zae];omega) (λo ho=>(hro o ho).1) (λo ho=>(hro o ho).2)) (λy wD Ms HA kk=>?_);refine Uz (λwE HB=>?_);refine V3 ?_;exact⟨_,.slice X G.length cX,G,by rw[amg];rfl,λ_=>hGe,by
  have h1:=dY HB At2;have h2:=Sep.mh (Z:=λw=>aJ w (.slice X G.length cX) grC 3 G/\jY w G) h1.aS.aS (λw a b=>⟨a,b⟩);exact h2.aS.aR.first.turn⟩
def oo (w:Wd) (vw vc:Value) (r:List (L8×Value)) (p:aW):Prop:=aJ w vw aN 3 p.wh/\aJ w vc dx 2 r/\pI w r p.cols
def oo.is {vw vc:Value} {r:List (L8×Value)} {p:aW} (h:oo w vw vc r p):fZ w (agg [vw,vc,I p.group]) p:=⟨vw,vc,rfl,h.1,r,h.2.1,h.2.2⟩
def oo.keep {w w':Wd} {vw vc:Value} {r:List (L8×Value)} {p:aW} (h:oo w vw vc r p) (hk:Kept noB w w'):oo w' vw vc r p:=⟨h.1.keep hk,h.2.1.keep hk,h.2.2.keep hk⟩
structure KX where
 cv:Value
 wv:Value
 pv:Value
 ov:Value
 r:List (L8×Value)
def lS (w:Wd) (z:KX) (cols:List bT) (p:aW) (outs:List bT):Prop:=aJ w z.cv aM 7 cols/\oo w z.wv z.pv z.r p/\aJ w z.ov aM 7 outs
def LG (v:Value):LV:=[v]
instance:jd LG 1:=⟨λ_=>rfl⟩
def RN (w:Wd) (b1:Nat) (g:Value) (l:List bL):Prop:=∃(bs:Nat) (sv:Value),g=.func (.func 70) #[] #[av b1,av bs]/\gJ w bs [sv] 23/\aJ w sv aN 3 l
def mX (w:Wd) (b1:Nat) (g:Value) (l:List bL):Prop:=if l=[]then g=.func (.func 72) #[] #[]else RN w b1 g l
def oV (w:Wd) (b1:Nat) (gl:LV) (l:List nQ):Prop:=gl.length=l.length/\∀(i:Nat) g o,gl[i]? =some g->l[i]? =some o->RN w b1 g o.steps
def UJ (w:Wd) (b b1 bp b4:Nat) (p:aW):Prop:=∃(pf gv:Value) (gl:LV),gJ w b1 [av b] 30/\
 (gJ w bp [pf] 132/\mX w b1 pf p.wh)/\(gJ w b4 [gv] 136/\aJ w gv LG 1 gl)/\oV w b1 gl p.cols
def KY (b1 bp b4:Nat):Value:=.func (.func 73) #[] #[av b1,av bp,av b4]
def qb (w:Wd) (b:Nat) (fv:Value) (p:aW):Prop:=∃b1 bp b4:Nat,fv=KY b1 bp b4/\UJ w b b1 bp b4 p
variable {b1:Nat}
def ae2 {b bp b4:Nat} {p:aW} (h:qb w b (KY b1 bp b4) p):UJ w b b1 bp b4 p:=by
 obtain⟨c1,cp,c4,e,h⟩:=h;unfold KY at e;injection e with _ _ e
 simp[av]at e;obtain⟨rfl,rfl,rfl⟩:=e;exact h
variable {g:Value}
def RN.keep {w w':Wd} {l:List bL} (h:RN w b1 g l) (hk:Kept noB w w'):RN w' b1 g l:=by
 obtain⟨bs,sv,e,h1,h2⟩:=h;exact⟨bs,sv,e,h1.keep hk,h2.keep hk⟩
def mX.keep {w w':Wd} {l:List bL} (h:mX w b1 g l) (hk:Kept noB w w'):mX w' b1 g l:=by
 unfold mX at h |-
 split
 .rename_i e;rw[zac e]at h;exact h
 rename_i e;rw[zaa e]at h;exact h.keep hk
def oV.nil:oV w b1 [] []:=⟨rfl,λi g o h=>by simp at h⟩
def oV.push {gl:LV} {l:List nQ} {o:nQ} (h:oV w b1 gl l) (hg:RN w b1 g o.steps):oV w b1 (gl++[g]) (l++[o]):=by
 refine⟨by rw[zad,zad,h.1];rfl,λi x y hx hy=>?_⟩
 by_cases hi:i<gl.length
 .rw[zcl hi]at hx
  rw[zcl (by rw[<-h.1];exact hi)]at hy;exact h.2 i x y hx hy
 rw[zby oM]at hx;rw[zby (by rw[<-h.1];omega),<-h.1]at hy
 have h0:i-gl.length=0:=by
  cases hj:i-gl.length with
  | zero=>rfl
  | succ j=>rw[hj]at hx;simp at hx
 rw[h0]at hx hy;injection hx with hx
 injection hy with hy
 subst hx;subst hy;exact hg
def sO (z:KX) (g:Int) (kv:Value) (o1 o2 o3:Int) (fv:Value):LV:=mo z.cv z.wv z.pv g z.ov kv o1 o2 o3 fv
def sP (kv:Value) (p:aW) (T:List aG):HP:=
 if p.group<0 then exH λx:Nat×Value=>star (jk (kv=.iface 73 (av x.1))) (star (blk x.1 [x.2] 75) (BM x.2 (cO T).1))
 else exH λx:Nat×Nat×Nat=>star (jk (kv=.iface 96 (av x.1))) (star (blk x.1 [av x.2.1,I (p.group.toNat:Nat)] 98) (star (blk x.2.1 (q8 p.group.toNat (p.cols.length-p.group.toNat) x.2.2) 129) (GH x.2.2 (p.cols.length-p.group.toNat) (T.map (fu p.group.toNat)))))
def jZ (b:Nat) (cols:List bT) (p:aW) (T:List aG):HP:=exH λx:KX×Value×Int×Value=>star (blk b (sO x.1 p.group x.2.1 x.2.2.1 0 0 x.2.2.2) 92) (star (sP x.2.1 p T)
 (fP λw=>lS w x.1 cols p (aZ cols p).1/\((x.2.2.1=0/\x.2.2.2=.nilFunc)\/(x.2.2.1=1/\qb w b x.2.2.2 p))))
theorem J2 {p:aW} (hp:fZ w v p) (hn:p.cols.length<=100) (Bn:p.wh.length<=1000) (Tq: ∀o∈p.cols,o.steps.length<=1000):aQ Tryz.prog 30 [v] w λu w'=>∃x:Value×Value×List (L8×Value),u=agg [x.1,x.2.1,I p.group]/\True/\Turn noB (fP λw=>oo w x.1 x.2.1 x.2.2 p) w w':=by
 obtain⟨vw,vc,rfl,hw,hc⟩:=hp;obtain⟨r,hr,eP⟩:=hc;have YV:=hw;obtain⟨W,mw,rfl,⟨hmw,awr⟩,hW⟩:=YV;obtain⟨A,m,rfl,⟨hm,nX⟩,hA⟩:=hr;have yL:=eP.len;have H:=Sep.aH w;refine pE Tryz.func30 ?_;refine Sr (bB H (cs:=[.slice W p.wh.length mw,.slice A r.length m,I p.group]) rfl (h:=λb1 _ _ _=>?_));refine Az (λb2 _ _ _=>?_);refine Qn (dB (λz:Nat×OA×Nat=>[(1,av b1),(2,av b2),(3,av z.1)]) (λz w'=>Mw.Sep w noB [F9 (.slice z.2.1 p.wh.length z.2.2) aN 3 p.wh,blk z.1 [.slice z.2.1 p.wh.length z.2.2,.slice none 0 0,I p.group] 26,blk b2 [.slice none 0 0,.slice none 0 0,I 0] 26,blk b1 [.slice W p.wh.length mw,.slice A r.length m,I p.group] 26] w') ?_ ?_)
 .refine Dz (λk _ S=>?_)
  refine V2 ?_;refine Gp k 3 rfl rfl (λ_=>(Gives.yt rfl)) (V1 ?_);refine jQ k (e1:=2) (e2:=6) kR ?_ ?_
  .refine j3 k 2 [(4,false),(3,true)] S (yA (hw.keep S.kept) Bn) (h:=λvx _ _ c _=>?_)
   obtain⟨X,cx,rfl,_,_⟩:=Sep.bH c At0;refine⟨sL,?_⟩;refine Gb k 5 [.slice X p.wh.length cx,.slice none 0 0,I p.group] ?_;refine r9 k 6 [(5,true),(4,false),(3,true)] c (h:=λb3 _ c=>⟨sL,?_⟩);refine bM k 7 _ c (h:=λ_ c=>⟨sT,?_⟩);refine V0 ?_;exact au (b3,X,cx) tR (by first | exact dY c At0 | exact dY c.aF At0)
  refine jE k 6 [(4,false),(3,true),(1,false),(0,true)] S (h:=λb3 _ c=>⟨sL,?_⟩);refine eB k 2 [(4,false),(3,true)] c (yA (hw.keep c.kept) Bn) (h:=λvx _ _ c _=>?_);obtain⟨X,cx,rfl,_,_⟩:=Sep.bH c At0;refine⟨sL,?_⟩;refine Gb k 5 [.slice X p.wh.length cx,.slice none 0 0,I p.group] ?_;refine bM k 7 _ c (h:=λ_ c=>⟨sT,?_⟩);refine V0 ?_;exact au (b3,X,cx) tR (by first | exact dY c At0 | exact dY c.aF At0)
 rintro⟨b3,X,cx⟩ τ c c;dsimp only at c;refine Lp ?_;refine V4 ?_;have k:=EH (Sep.iW c 68 2 dx);refine aI (λx:Nat×(OA×Nat)×List (L8×Value)=>[(2,av b2),(3,av b3),(13,.slice A r.length m),(14,I r.length),(15,I x.1)]) (λx w'=>(x.1<=r.length/\x.2.2.length=x.1)/\Mw.Sep w noB [Bb x.2.2 (p.cols.take x.1),aU 68 2 dx (.slice x.2.1.1 x.2.2.length x.2.1.2) x.2.2,F9 (.slice X p.wh.length cx) aN 3 p.wh,blk b3 [.slice X p.wh.length cx,.slice x.2.1.1 x.2.2.length x.2.1.2,I p.group] 26,blk b2 [.slice none 0 0,.slice none 0 0,I 0] 26] w') (λx _=>r.length-x.1) (0,(none,0),[]) tR ⟨⟨zai _,rfl⟩,k.firsts (l:=[_,_,_,_,_])⟩ (λx τ _ hI=>?_);obtain⟨i,⟨C,cc⟩,q⟩:=x;obtain⟨⟨hi,Zl⟩,k⟩:=hI;dsimp only at hi Zl k;refine Lp ?_;refine Cz (λc=>?_) (λc=>?_)
 .have aX:i<p.cols.length:=oM
  obtain⟨vx,hx,CS⟩:=eP.at aX;have qy:p.cols[i]? =some p.cols[i]:=zab aX;obtain⟨o,ho⟩: ∃o,o=p.cols[i]:=⟨_,rfl⟩;rw[<-ho]at hx CS qy;have yH:p.cols.take (i+1)=p.cols.take i++[o]:=by rw[zat,qy,zcz]
  have hol:=Tq o (zag qy);have atx:=CS;obtain⟨V,cv,rfl,_,_⟩:=atx;refine V0 ?_;refine Vv (Gives.fA rfl rfl hA oM) (Vv (Gives.iA rfl k hA hx) ?_);refine Az (λb5 _ _ _=>?_);refine Tz (λ_ _=>?_);refine Dz (λc _ S=>?_);refine V6 ?_;refine eB c 6 [(3,false),(2,true),(1,false),(0,true)] S (yA (l:=o.steps) (CS.keep S.kept) hol) (h:=λvy _ _ S _=>?_);obtain⟨Y,cy,rfl,_,_⟩:=Sep.bH S At0;refine⟨sL,?_⟩;refine Gb c 7 (dx (o.name,.slice Y o.steps.length cy)) ?_;refine Gz c 8 [(1,false),(0,true)] S ([(o.name,Value.slice Y o.steps.length cy)].flatMap dx) (h:=λbs _ S=>⟨sL,?_⟩);refine gH c 9 _ S (news:=[(o.name,Value.slice Y o.steps.length cy)]) At3 (by unfold maxLen;simp;omega) (by simp;omega) (λu hu=>zba.1 (show([(o.name,Value.slice Y o.steps.length cy)].flatMap dx).all Value.oneCell'=true from rfl) u hu) (h:=λv2 _ S=>?_);obtain⟨C2,c2,rfl,_,_⟩:=Sep.bH S At3;refine⟨sT,?_⟩;refine V1 ?_;refine l8 c 11 _ S (h:=λ_ S=>⟨sT,?_⟩);refine V0 ?_;refine Vc ((i+1:Nat):Int) ?_;refine V1 ?_;exact aj (i+1,(C2,c2),q++[(o.name,Value.slice Y o.steps.length cy)]) tR ⟨⟨dO,by dsimp only;rw[zad,Zl];rfl⟩,by
  dsimp only;rw[yH];exact BL S.aF.bI⟩ dO
 have q9:p.cols.take i=p.cols:=zaj oM;refine V0 ?_;refine fQ k (cs:=[.slice X p.wh.length cx,.slice C q.length cc,I p.group]) (h:=?_);refine Tz (λ_ S=>?_);refine V0 ?_;rw[q9]at S;have h1:=dY S.aF At0;have h2:=Sep.mh (Z:=λw=>aJ w (.slice C q.length cc) dx 2 q/\pI w q p.cols) h1 (λw a b=>⟨a,b⟩);have h3:=Sep.mh (Z:=λw=>oo w (.slice X p.wh.length cx) (.slice C q.length cc) q p) h2.aF (λw a b=>⟨a,b⟩);exact⟨_,fG S,(.slice X p.wh.length cx,.slice C q.length cc,q),rfl,trivial,h3.first.turn⟩
def KZ (A:OA) (n c:Nat) (b1:Nat):aQ prog 69 [.slice A n c,av b1] w λu w'=>∃bs:Nat,u=.func (.func 70) #[] #[av b1,av bs]/\True/\Turn noB (blk bs [.slice A n c] 23) w w':=by
 have H:=Sep.aH w;refine bU func69 ?_;refine Sr (bB H (cs:=[.slice A n c]) rfl (h:=λbs _ k _=>?_));refine V3 ?_;exact⟨bs,rfl,trivial,k.turn⟩
theorem aaP {b:Nat} {z:KX} {kv fv:Value} {o1 o2 o3:Int} {cols outs:List bT} {p:aW} (hp:(star (blk b (sO z p.group kv o1 o2 o3 fv) 92) (fP λw=>lS w z cols p outs)).ok F w) (hn:p.cols.length<=100):
    aQ prog 41 [av b] w λ_ w'=>∃gv:Value,Turn F (star (blk b (sO z p.group kv o1 o2 o3 gv) 92) (fP λw=>lS w z cols p outs/\qb w b gv p)) w w':=by
  have H:=(Sep.bW hp).bE;obtain⟨cv,wv,pv,ov,r⟩:=z;have hF0:lS _ ⟨cv,wv,pv,ov,r⟩ cols p outs:=Sep.sees H At1;have YV:aJ _ wv aN 3 p.wh:=hF0.2.1.1;have hr0:aJ _ pv dx 2 r:=hF0.2.1.2.1;obtain⟨W,cw,rfl,_,_⟩:=YV;obtain⟨A,ca,rfl,_,_⟩:=hr0;have yL:=hF0.2.1.2.2.len;dsimp only at yL;unfold sO at H ⊢;dsimp only at H ⊢;refine dh func41 ?_;refine Sr (bB H (cs:=[av b]) rfl (h:=λb1 _ _ _=>?_));refine Az (λbp _ _ _=>?_);refine Uz (λ_ k=>?_);refine Qn (dB (λx:Value=>[(1,av b1),(2,.func (.func 69) #[] #[av b1]),(3,av bp)]) (λx w'=>Mw.Sep w F [fP λw=>lS w ⟨cv,.slice W p.wh.length cw,.slice A r.length ca,ov,r⟩ cols p outs/\mX w b1 x p.wh,blk bp [x] 132,blk b1 [av b] 30,blk b (mo cv (.slice W p.wh.length cw) (.slice A r.length ca) p.group ov kv o1 o2 o3 fv) 92] w') ?_ ?_)
  . refine Cz (λS=>?_) (λS=>?_)
    . have hwn: ¬p.wh=[]:=λe=>by have h:=S;rw[e]at h;simp at h
      refine V6 ?_;refine eY (fs:=[]) (cs:=[av b1]) (vals:=[.slice W p.wh.length cw]) rfl (KZ W p.wh.length cw b1) rfl rfl (λv' _ hv=>?_);obtain⟨bs,rfl,_,jH,F1,jB,S⟩:=hv;have c:=k.new jH jB (λb hb=>(S b hb).resolve_left id);refine Uz (λ_ c=>?_);refine V0 ?_;have h1:=Sep.look c At0 (X:=λw=>gJ w bs [.slice W p.wh.length cw] 23) (λF w h=>h.2);have h2:=Sep.mh (Z:=λw=>lS w ⟨cv,.slice W p.wh.length cw,.slice A r.length ca,ov,r⟩ cols p outs/\mX w b1 (.func (.func 70) #[] #[av b1,av bs]) p.wh) h1.gu (λw g1 g2=>⟨g1,by unfold mX;rw[zaa hwn];exact⟨bs,_,rfl,g2,g1.2.1.1⟩⟩);exact au (.func (.func 70) #[] #[av b1,av bs]) tR h2
    have hwn:p.wh=[]:=zbg oM;refine V0 ?_;have h1:=Sep.qM (Y:=λw=>lS w ⟨cv,.slice W p.wh.length cw,.slice A r.length ca,ov,r⟩ cols p outs/\mX w b1 (.func (.func 72) #[] #[]) p.wh) k At3 (λw h=>⟨h,by unfold mX;rw[zac hwn]⟩);exact au (.func (.func 72) #[] #[]) tR h1.aS
  rintro pf τ c c;refine Lp ?_;refine Az (λb4 _ c _=>?_);refine V7 ?_;have k:=Sep.qM (Y:=λw=>lS w ⟨cv,.slice W p.wh.length cw,.slice A r.length ca,ov,r⟩ cols p outs/\mX w b1 pf p.wh/\oV w b1 [] []) c At1 (λw h=>⟨h.1,h.2,oV.nil⟩);refine aI (λx:(OA×Nat)×LV×Nat=>[(1,av b1),(2,.func (.func 69) #[] #[av b1]),(3,av bp),(4,av b4),(26,.slice A r.length ca),(27,I r.length),(28,I x.2.2)]) (λx w'=>(x.2.2<=r.length/\x.2.1.length=x.2.2)/\Mw.Sep w F [blk b4 [.slice x.1.1 x.2.1.length x.1.2] 136,aU 132 1 LG (.slice x.1.1 x.2.1.length x.1.2) x.2.1,fP λw=>lS w ⟨cv,.slice W p.wh.length cw,.slice A r.length ca,ov,r⟩ cols p outs/\mX w b1 pf p.wh/\oV w b1 x.2.1 (p.cols.take x.2.2),blk bp [pf] 132,blk b1 [av b] 30,blk b (mo cv (.slice W p.wh.length cw) (.slice A r.length ca) p.group ov kv o1 o2 o3 fv) 92] w') (λx _=>r.length-x.2.2) ((none,0),[],0) tR ⟨⟨zai _,rfl⟩,(Sep.iW k 132 1 LG).aF⟩ (λx τ _ hI=>?_);obtain⟨⟨G,cG⟩,gl,i⟩:=x;obtain⟨⟨hi,Kt⟩,k⟩:=hI;dsimp only at hi Kt k;refine Lp ?_;refine Cz (λc=>?_) (λc=>?_)
  . have aX:i<p.cols.length:=oM
    have hPA:=(Sep.sees k At2).1.2.1;obtain⟨vx,hx,CS⟩:=hPA.2.2.at aX;have qy:p.cols[i]? =some p.cols[i]:=zab aX;obtain⟨o,ho⟩: ∃o,o=p.cols[i]:=⟨_,rfl⟩;rw[<-ho]at hx CS qy;have yH:p.cols.take (i+1)=p.cols.take i++[o]:=by rw[zat,qy,zcz]
    obtain⟨V,cV,rfl,_,_⟩:=CS;refine V0 ?_;refine Vv (Gives.fA rfl rfl (eX (Sep.sees k At2).1.2.1.2.1) oM) (Vv (Gives.iA rfl (Sep.aH _) (eX (Sep.sees k At2).1.2.1.2.1) hx) ?_);refine Az (λb6 _ _ _=>?_);refine Tz (λ_ _=>?_);refine Dz (λc _ k=>?_);refine V4 ?_;refine j4 c 4 [(0,false)] (y:=.tmp 33) (fs:=[]) (cs:=[av b1]) (vals:=[.slice V o.steps.length cV]) rfl (KZ V o.steps.length cV b1) (h:=λv' _ hv=>?_);obtain⟨bs,rfl,_,jH,F1,jB,S⟩:=hv;have d:=k.new jH jB (λb hb=>(S b hb).resolve_left id);refine⟨sL,?_⟩;refine Gz c 5 [(0,false)] d ([Value.func (.func 70) #[] #[av b1,av bs]].flatMap LG) (h:=λbq _ d=>⟨sL,?_⟩);refine gH c 6 _ d (news:=[Value.func (.func 70) #[] #[av b1,av bs]]) At3 (by unfold maxLen;simp only[zaf];omega) (by simp only[zaf];omega) (λu hu=>zba.1 (show([Value.func (.func 70) #[] #[av b1,av bs]].flatMap LG).all Value.oneCell'=true from rfl) u hu) (h:=λv38 _ d=>?_);obtain⟨G2,c2,rfl,_,_⟩:=Sep.bH d At3;refine⟨sT,?_⟩;refine l8 c 7 _ d (h:=λ_ d=>⟨sT,?_⟩);refine V0 ?_;refine Vc ((i+1:Nat):Int) ?_;refine V1 ?_;have h1:=Sep.look d At0 (X:=λw=>gJ w bs [.slice V o.steps.length cV] 23) (λF w h=>h.2)
    have h2:=Sep.mh (Z:=λw=>lS w ⟨cv,.slice W p.wh.length cw,.slice A r.length ca,ov,r⟩ cols p outs/\mX w b1 pf p.wh/\oV w b1 (gl++[Value.func (.func 70) #[] #[av b1,av bs]]) (p.cols.take (i+1))) (h1.aF.bI.aS) (λw g1 g2=>⟨g1.1,g1.2.1,by
      rw[yH];refine g1.2.2.push ⟨bs,_,rfl,g2,?_⟩;obtain⟨vy,hy,hsy⟩:=g1.1.2.1.2.2.at aX;rw[<-ho,hx]at hy;injection hy with hy
      injection hy with _ hy
      rw[<-ho,<-hy]at hsy;exact hsy⟩)
    exact aj ((G2,c2),gl++[Value.func (.func 70) #[] #[av b1,av bs]],i+1) tR ⟨⟨dO,by dsimp only;rw[zad,Kt];rfl⟩,h2.aO.aO⟩ dO
  have q9:p.cols.take i=p.cols:=zaj oM;refine V1 ?_;refine Vv (Gives.makeFunc (us:=[]) (vs:=[av b1,av bp,av b4]) rfl rfl) (Uz (λ_ d=>?_));refine V0 ?_;rw[q9]at d;have h1:=Sep.look d.aR At0 (X:=λw=>gJ w b4 [.slice G gl.length cG] 136/\aJ w (.slice G gl.length cG) LG 1 gl) (λF w h=>by obtain⟨F1,F2,_,_,a,b⟩:=h;exact⟨a.2,mW b⟩);have h2:=Sep.mh (Z:=λw=>(lS w ⟨cv,.slice W p.wh.length cw,.slice A r.length ca,ov,r⟩ cols p outs/\mX w b1 pf p.wh/\oV w b1 gl p.cols)/\gJ w b4 [.slice G gl.length cG] 136/\aJ w (.slice G gl.length cG) LG 1 gl) h1 (λw a b=>⟨b,a⟩);have h3:=Sep.look h2 At1 (X:=λw=>gJ w bp [pf] 132) (λF w h=>h.2);have h4:=Sep.mh (Z:=λw=>((lS w ⟨cv,.slice W p.wh.length cw,.slice A r.length ca,ov,r⟩ cols p outs/\mX w b1 pf p.wh/\oV w b1 gl p.cols)/\gJ w b4 [.slice G gl.length cG] 136/\aJ w (.slice G gl.length cG) LG 1 gl)/\gJ w bp [pf] 132) h3 (λw a b=>⟨a,b⟩);have h5:=Sep.look h4 At1 (X:=λw=>gJ w b1 [av b] 30) (λF w h=>h.2);have h6:=Sep.mh (Z:=λw=>lS w ⟨cv,.slice W p.wh.length cw,.slice A r.length ca,ov,r⟩ cols p outs/\qb w b (.func (.func 73) #[] #[av b1,av bp,av b4]) p) h5 (λw a b=>⟨a.1.1.1,b1,bp,b4,rfl,pf,_,gl,b,⟨a.2,a.1.1.2.1⟩,a.1.2,a.1.1.2.2⟩);exact⟨_,h6.aF.aR.first.turn⟩
def cellP (b o:Nat):Value:=.pointer (some ⟨b,o,none⟩)
variable {b:Nat} {cv wv pv ov kv fv:Value} {g o1 o2 o3:Int}
def Ce {E:Td} (hb:gJ w b (mo cv wv pv g ov kv o1 o2 o3 fv) E):Rk prog 67 [cellP b 6] w (.bool (decide (o1≠0))):=by
 have H:=Sep.aH w;refine dh func67 ?_;refine V4 ?_;refine Vv (Gives.ext (vals:=[cellP b 6]) (run_call_load (P:=prog) func115 kR kR kR .u32 kR (by rw[jW (hb.keep H.kept)];rfl))) ?_;refine V2 ?_;exact⟨rfl,H.kept⟩
def ae3 (hp:(blk b (mo cv wv pv g ov kv o1 0 o3 fv) 92).ok F w):aQ prog 170 [cellP b 7] w λv w'=>v=.tuple #[]/\Turn F (blk b (mo cv wv pv g ov kv o1 1 o3 fv) 92) w w':=by
 have H:=Sep.bW hp;refine dh func170 ?_;refine Sr (Vv (Gives.ext (vals:=[]) (run_call_mark0 (P:=prog) func232 kR kR kR .disable kR _)) (V3 ?_));obtain⟨k,Bn⟩: ∃S,S=World.setCell w ⟨b,7,none⟩ (.int .i32 1):=⟨_,rfl⟩;have S:Mw.Sep w F [blk b (mo cv wv pv g ov kv o1 1 o3 fv) 92] k:=by rw[Bn];exact Mj (o:=7) (v:=.int .i32 1) H At0 rfl
 refine dD (w':=k) (Gives.ext (vals:=[cellP b 7,.int .i32 0,.int .i32 1]) (by rw[Bn];exact run_call_cas_hit (P:=prog) func233 kR kR kR .i32 kR (by rw[jW (H.obj At0)];rfl) (AB (H.obj At0)))) rfl ?_;refine Qn (Cd rfl (λk=>?_) (λk=>?_))
 .refine Bo (Cd rfl (λI=>?_) (λI=>?_))
  .refine Sr (Vv (Gives.ext (vals:=[]) (run_call_mark0 (P:=prog) func234 kR kR kR .enable kR _)) (V1 ?_))
   refine Vv (Gives.acS (a:=⟨b,7,none⟩) (run_convert_to_unsafe (P:=prog) (t:=85) kR kR kR (v:=.int .i32 1) (by rw[jW (S.obj At0)];rfl)) rfl) ?_;refine Vv (Gives.ext (vals:=[cellP b 7]) (run_call_marked (P:=prog) func235 kR kR kR .acquire kR ⟨b,7,none⟩ _)) (V0 ?_);exact⟨rfl,S.turn⟩
  refine V0 ?_;exact⟨rfl,S.turn⟩
 exact Bool.noConfusion k
def Ym (hp:(blk b (mo cv wv pv g ov kv o1 1 o3 fv) 92).ok F w):aQ prog 171 [cellP b 7] w λv w'=>v=.tuple #[]/\Turn F (blk b (mo cv wv pv g ov kv o1 0 o3 fv) 92) w w':=by
 have H:=Sep.bW hp;refine dh func171 ?_;refine Bo (Cd rfl (λk=>?_) (λk=>?_))
 .refine V3 ?_
  refine dM (H.obj At0) (h:=?_);refine V1 ?_;refine Vv (Gives.acS (a:=⟨b,7,none⟩) (run_convert_to_unsafe (P:=prog) (t:=85) kR kR kR (v:=.int .i32 1) (by rw[jW (H.obj At0)];rfl)) rfl) ?_;refine Vv (Gives.ext (vals:=[cellP b 7]) (run_call_marked (P:=prog) func237 kR kR kR .releaseMerge kR ⟨b,7,none⟩ _)) (V0 ?_);refine Vv (Gives.ext (vals:=[]) (run_call_mark0 (P:=prog) func232 kR kR kR .disable kR _)) (V3 ?_);obtain⟨k,Bn⟩: ∃S,S=World.setCell w ⟨b,7,none⟩ (.int .i32 0):=⟨_,rfl⟩;have I:Mw.Sep w F [blk b (mo cv wv pv g ov kv o1 0 o3 fv) 92] k:=by rw[Bn];exact Mj (o:=7) (v:=.int .i32 0) H At0 rfl
  refine dD (w':=k) (Gives.ext (vals:=[cellP b 7,.int .i32 (-1)]) (by rw[Bn];exact run_call_add (P:=prog) func238 kR kR kR .i32 kR (x:=1) (by rw[jW (H.obj At0)];rfl) (AB (H.obj At0)) (by simp[go_sem];rfl))) rfl ?_;refine Cz (λk=>?_) (λk=>?_)
  .exact zas rfl k
  refine V0 ?_;refine Vv (Gives.ext (vals:=[]) (run_call_mark0 (P:=prog) func234 kR kR kR .enable kR _)) (V0 ?_);exact⟨rfl,I.turn⟩
 refine V3 ?_;obtain⟨k,Bn⟩: ∃S,S=World.setCell w ⟨b,7,none⟩ (.int .i32 0):=⟨_,rfl⟩;have S:Mw.Sep w F [blk b (mo cv wv pv g ov kv o1 0 o3 fv) 92] k:=by rw[Bn];exact Mj (o:=7) (v:=.int .i32 0) H At0 rfl
 refine dD (w':=k) (Gives.ext (vals:=[cellP b 7,.int .i32 (-1)]) (by rw[Bn];exact run_call_add (P:=prog) func238 kR kR kR .i32 kR (x:=1) (by rw[jW (H.obj At0)];rfl) (AB (H.obj At0)) (by simp[go_sem];rfl))) rfl ?_;refine Cz (λk=>?_) (λk=>?_)
 .exact zas rfl k
 refine V0 ?_;refine Vv (Gives.ext (vals:=[]) (run_call_mark0 (P:=prog) func234 kR kR kR .enable kR _)) (V0 ?_);exact⟨rfl,S.turn⟩
def akx (hp:(blk b (mo cv wv pv g ov kv o1 0 o3 fv) 92).ok F w):aQ prog 116 [cellP b 7] w λv w'=>v=.tuple #[]/\Turn F (blk b (mo cv wv pv g ov kv o1 1 o3 fv) 92) w w':=by
 have H:=Sep.bW hp;refine dh func116 ?_;refine V3 ?_;refine Ot H At0 (λF' hp _=>ae3 hp) (h:=λ_ k=>?_);refine V0 ?_;exact⟨rfl,k.turn⟩
def aaQ (hp:(blk b (mo cv wv pv g ov kv o1 1 o3 fv) 92).ok F w):Bd prog 117 [cellP b 7] w λ_ w'=>Turn F (blk b (mo cv wv pv g ov kv o1 0 o3 fv) 92) w w':=by
 have H:=Sep.bW hp;refine ana func117 ?_;refine V3 ?_;refine Ot H At0 (λF' hp _=>Ym hp) (h:=λ_ k=>?_);refine yj (K5 (h:=?_));exact⟨[],rfl,k.turn⟩
def amX:Rk prog 173 [.bool true] w (.int .u32 1):=by
 have H:=Sep.aH w;refine dh func173 ?_;refine O2 ?_;refine Qn (Cd rfl (λk=>?_) (λk=>?_))
 .refine V1 ?_
  exact⟨rfl,H.kept⟩
 exact Bool.noConfusion k
def ae4 (hp:(blk b (mo cv wv pv g ov kv o1 o2 o3 fv) 92).ok F w):Bd prog 118 [cellP b 6,.bool true] w λ_ w'=>Turn F (blk b (mo cv wv pv g ov kv 1 o2 o3 fv) 92) w w':=by
 have H:=Sep.bW hp;refine anb func118 ?_;refine Dz (λk _ S=>?_);refine V4 ?_;refine dA k 4 _ S amX (h:=λS I _=>⟨sT,?_⟩);obtain⟨a,Bn⟩: ∃c,c=World.setCell S ⟨b,6,none⟩ (.int .u32 1):=⟨_,rfl⟩;have c:Mw.Sep w F [blk b (mo cv wv pv g ov kv 1 o2 o3 fv) 92] a:=by rw[Bn];exact Mj (o:=6) (v:=.int .u32 1) I At0 rfl
 refine ao7 k 5 [] (w':=a) (vals:=[cellP b 6,.int .u32 1]) (by rw[Bn];exact run_call_store (P:=prog) func172 kR kR kR kR (u:=.int .u32 o1) (by rw[jW (I.obj At0)];rfl) (AB (I.obj At0))) (h:=⟨sT,?_⟩);refine fO k kR ?_;refine K5 (h:=?_);exact⟨[],rfl,c.turn⟩
variable {z:KX} {cols outs:List bT} {p:aW}
def ae5 (hp:(star (blk b (sO z p.group kv 0 0 0 .nilFunc) 92) (fP λw=>lS w z cols p outs)).ok F w) (hn:p.cols.length<=100):
    aQ prog 68 [cellP b 6,.func (.func 41) #[av b] #[]] w λ_ w'=>∃gv:Value,Turn F (star (blk b (sO z p.group kv 1 0 0 gv) 92) (fP λw=>lS w z cols p outs/\qb w b gv p)) w w':=by
  have H:=(Sep.bW hp).bE;unfold sO at H;refine am9 func68 ?_;refine V3 ?_;refine Ot H At0 (λF' hp _=>akx hp) (h:=λ_ k=>?_);refine V3 ?_;refine Yz (vals:=[cellP b 7]) (h:=?_);refine Kz (Ce (k.obj At0)) (λ_ k _=>?_);refine Cz (λS=>?_) (λS=>?_)
  . refine V3 ?_
    refine Yz (vals:=[cellP b 6,.bool true]) (h:=?_);refine V1 ?_;obtain⟨F0,rC,_,aK⟩:=(k.aR).focus At0;refine eY (fs:=[av b]) (cs:=[]) (vals:=[]) rfl (aaP (z:=z) (cols:=cols) (p:=p) (outs:=outs) rC hn) rfl rfl (λv' _ hv=>?_);obtain⟨gv,jH,F1,jB,k⟩:=hv;have I:=(aK _ F1 _ jH jB k).bE;refine yj (Yy (h:=?_));obtain⟨F0,rC,_,aK⟩:=I.focus At0;unfold sO at rC;refine⟨[],rfl,R5 (Bd.mono (ae4 rC) λv1 _ Tt=>?_)⟩;obtain⟨jH,F1,jB,k⟩:=Tt;obtain⟨F2,an5,_,ajr⟩:=(aK _ F1 _ jH jB k).focus At0;refine R5 (Bd.mono (aaQ an5) λv2 _ hv2=>?_);obtain⟨hk2,F3,qD,k⟩:=hv2;exact⟨gv,(ajr _ F3 _ hk2 qD k).aR.turn⟩
  exact zas S sM
def ahQ (hp:(star (blk b (sO z p.group kv 0 0 0 .nilFunc) 92) (fP λw=>lS w z cols p outs)).ok F w) (hn:p.cols.length<=100):
    aQ prog 40 [cellP b 6,.func (.func 41) #[av b] #[]] w λ_ w'=>∃gv:Value,Turn F (star (blk b (sO z p.group kv 1 0 0 gv) 92) (fP λw=>lS w z cols p outs/\qb w b gv p)) w w':=by
  have H:=Sep.bW hp;refine bU func40 ?_;refine Kz (Ce (H.bE.obj At0)) (λ_ k _=>?_);refine Cz (λS=>?_) (λS=>?_)
  . refine V2 ?_
    obtain⟨F0,rC,_,aK⟩:=k.focus At0;refine aL (ae5 rC hn) rfl rfl (λv' _ hv=>?_);obtain⟨gv,jH,F1,jB,k⟩:=hv;have I:=aK _ F1 _ jH jB k;refine V0 ?_;exact⟨gv,I.turn⟩
  exact zas S sM
def aky {E:Td} {f:Value} (hb:gJ w b (sO z p.group kv 1 o2 o3 fv) E):aQ prog 40 [cellP b 6,f] w λ_ w'=>Kept noB w w':=by
 have H:=Sep.aH w;refine bU func40 ?_;refine Kz (Ce (hb.keep H.kept)) (λ_ k _=>?_);refine Cz (λS=>?_) (λS=>?_)
 .exact zas S sM
 refine V0 ?_;exact k.kept
def amY (hp:(star (blk b (sO z p.group kv o1 0 0 fv) 92) (fP λw=>lS w z cols p outs/\((o1=0/\fv=.nilFunc)\/(o1=1/\qb w b fv p)))).ok F w) (hn:p.cols.length<=100):
    aQ prog 40 [cellP b 6,.func (.func 41) #[av b] #[]] w λ_ w'=>∃gv:Value,Turn F (star (blk b (sO z p.group kv 1 0 0 gv) 92) (fP λw=>lS w z cols p outs/\qb w b gv p)) w w':=by
  have H:=(Sep.bW hp).bE
  rcases (Sep.sees H At1).2 with⟨rfl,rfl⟩ | ⟨rfl,_⟩
  . have k:=(Sep.qM (Y:=λw=>lS w z cols p outs) H At1 λw h=>h.1).aR
    obtain⟨F0,rC,_,aK⟩:=k.focus At0;refine aQ.mono (ahQ rC hn) λv w' hv=>?_;obtain⟨gv,jH,F1,jB,S⟩:=hv;exact⟨gv,(aK _ F1 _ jH jB S).turn⟩
  have k:=(Sep.qM (Y:=λw=>lS w z cols p outs/\qb w b fv p) H At1 λw h=>⟨h.1,h.2.elim (λh=>zas h.1 dC) λh=>h.2⟩);exact aQ.mono (aky (z:=z) (p:=p) (kv:=kv) (k.obj At0)) λv w' hk=>⟨fv,(k.keep hk).aR.turn⟩
end Go.Proofs.Mw
