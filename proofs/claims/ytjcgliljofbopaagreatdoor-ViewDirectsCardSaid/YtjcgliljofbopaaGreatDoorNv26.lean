/-
 What a keeper of groups holds,as rows;walked.
-/
import Derived.Test.YtjcgliljofbopaaGreatDoorNv25
set_option linter.all false
set_option maxRecDepth 4000
namespace Go.Proofs.Mw
open Go.Lib Go.Proofs.Tryz
attribute [local irreducible] FW FL FG FGn jK jO fI lU Qfn Gives
def akI (s:gu):Value:=agg [s.1,s.2.1]
def BA (L:List gu):List aH:=L.flatMap λs=>iE s.2.2.2 s.2.2.1 1
def ZX (L:List gu) (s:gu):BA (L++[s])=BA L++iE s.2.2.2 s.2.2.1 1:=by unfold BA;rw[zbt];simp
def Js: ∀L:List gu,(BA L).length<=L.length
 | []=>zbj _
 | s::L=>by
  have h1:=Js L;have h2:=rF s.2.2.2 s.2.2.1 1;unfold BA at h1 ⊢;rw[zbh,zad,zas];omega
def akJ (b3:Nat) (L pre:List gu):HP:=exH λz:Value×List Held=>star (jB (z.2.map (·.2)=BA pre)) (star (blk b3 [z.1] 27) (star (dV z.1 z.2) (fQ λw=>gI w L)))
def Q6 {α:Type} [DecidableEq α]: ∀{a b:List α},a.Nodup->a⊆b->a.length<=b.length
 | [],_,_,_=>zak _
 | x::a,b,hn,hs=>by
  rw[zfa]at hn;have hx:x∈b:=hs zao
  have h1:a⊆b.erase x:=λy hy=>by
   have iN:y≠x:=λe=>hn.1 (by rw[<-e];exact hy);exact(List.mem_erase_of_ne iN).2 (hs (zat _ hy))
  have h2:=Q6 hn.2 h1;rw[List.length_erase_of_mem hx]at h2;have h3:=List.length_pos_of_mem hx;rw[zas];omega
variable {sums:Nat} {E:List bC} {L:List gu}
def agS (h:mH (stE sums E) L):L.length<=E.length:=by
 have h1:L.map (·.2.2.1)⊆E.map (·.key):=λk hk=>by
  obtain⟨s,hs,rfl⟩:=zaq.1 hk;have h2:=h.is s hs;refine Classical.byContradiction λhm=>?_;have h3: ∀i,jD E s.2.2.1 i=0:=λi=>uJ λx hx e=>hm (zaq.2 ⟨x,hx,e⟩)
  have h4:stE sums E s.2.2.1=none:=by
   unfold stE;rw[zab];simp only[dW,h3];simp;exact λx _=>h3 x
  rw[h4]at h2;cases h2
 have h5:=Q6 h.nd h1;rw[zaf,zaf]at h5;exact h5
def ZY {keys:Nat} {xs:List gu} (h:mH (stE sums E) L) (hE: ∀x∈E,x.key.length=keys) (hp:xs.Perm L):dh (BA xs)=(lT sums E,0):=by
 have e:BA xs=(xs.map (·.2.2.1)).flatMap λk=>abm (stE sums E k) k 1:=by
  unfold BA;rw[List.flatMap_map,List.flatMap_def,List.flatMap_def]
  congr 1
  refine zco λs hs=>?_;rw[h.is s (hp.mem_iff.1 hs)];rfl
 rw[e];exact Qh hE ((hp.map _).symm.nodup h.nd) λk hk=>(hp.map _).mem_iff.2 (h.all k hk)
variable {w:Wd} {F:NP}
def ad6 (bh:Nat):aR prog 368 [.map (some bh)] w λv w'=>∃b1:Nat,v=.func (.func 376) #[] #[ay b1]/\True/\Turn noB (blk b1 [.map (some bh)] 116) w w':=by
 have H:=Sep.aF w;refine cK func368 ?_;refine Sr (bB H (cs:=[.map (some bh)]) rfl (h:=λb1 _ k _=>?_));refine Zb3 ?_;exact⟨b1,rfl,trivial,k.turn⟩
def Z0 {w0:Wd} {S:NP} {l Dd bh b1:Nat} {ro:Obj} {J:List gu->HP} {Fr:List HP} {E1:Td} (qy: ∀s∈L,s.1.oneCell'=true/\s.2.1.oneCell'=true)
    (H:Mw.Sep w0 S (Mw.obj l ro::Mw.obj Dd (.deferred (some []))::J []::blk b1 [.map (some bh)] E1::gQ bh (L.map gZ)::Fr) w)
    (hy: ∀(pre:List gu) (x:gu) (Fr:List HP) (W:Wd),(∃r,(pre++[x]++r).Perm L)->Mw.Sep w0 S (Mw.obj l ro::Mw.obj Dd (.deferred (some []))::J pre::Fr) W->Uf prog l [akI x] W λW'=>Mw.Sep w0 S (Mw.obj l ro::Mw.obj Dd (.deferred (some []))::J (pre++[x])::Fr) W'):
    aR prog 376 [.func (.yield l) #[] #[],ay b1] w λ_ w'=>∃xs:List gu,xs.Perm L/\Mw.Sep w0 S (Mw.obj l ro::Mw.obj Dd (.deferred (some []))::J xs::gQ bh (L.map gZ)::Fr) w':=by
  refine bQ func376 ?_;refine Zb1 ?_;refine Jo H At4 (h:=?_);intro q w3 H3;refine Zb0 ?_;refine aI (λx:List gu×List Ent=>[(0,.func (.yield l) #[] #[]),(1,ay b1),(6,ay q)]) (λx w'=>(∃r,(x.1++r).Perm L/\x.2.Perm (r.map gZ))/\Mw.Sep w0 S (Mw.obj l ro::Mw.obj Dd (.deferred (some []))::J x.1::blk b1 [.map (some bh)] E1::vE q bh (L.map gZ) x.2::Fr) w') (λx _=>x.2.length) ([],L.map gZ) tR ⟨⟨L,List.Perm.refl _,List.Perm.refl _⟩,H3⟩ (λx τ w5 hI=>?_);obtain⟨pre,Lf⟩:=x;obtain⟨⟨r,Yh,UL⟩,H5⟩:=hI;dsimp only at Yh UL H5;refine Lp ?_;refine Sr (Nj H5 At4 (h1:=λp Lf' w8 hn6 H8=>?_) (h2:=λhn6=>?_))
  . have hLt:Lf'.length<Lf.length:=by have:=(hn6).length_eq;simp only[zas]at this;omega
    obtain⟨s,r',hq,rfl,hL⟩:=Jr ((hn6).symm.trans UL)
    have Dm:(pre++[s]++r').Perm L:=by
      rw[zbm];exact(List.Perm.append_left pre hq.symm).trans Yh
    have hsL:s∈L:=Dm.mem_iff.1 (zcn _ (zct _ (zau.2 rfl)));obtain⟨kv,nv,key,ns⟩:=s;obtain⟨ho1,ho2⟩:=qy _ hsL;dsimp only at ho1 ho2;refine Zb1 ?_;refine Vv (Gives.aah H8 At4 rfl) ?_;have Ha:=Sep.Ut H8 At4;refine Vx ?_;refine Az (λb4 wa Hb ka=>?_);refine iy Hb (us:=[kv,nv]) (hv:=by simp[ho1,ho2]) (h:=λwb Hc=>?_);refine Zb1 ?_;refine fE Hc (cs:=[kv,nv]) (h:=?_);refine ahc rfl (hy pre (kv,nv,key,ns) _ _ ⟨r',Dm⟩ (Hc.bH)) rfl rfl (λwc Hd=>?_);refine Za1 ?_;refine Qn (Cd rfl (λIe=>?_) (λIe=>?_))
    . exact zar Ie dC
    refine Zb0 ?_;exact aj (pre++[(kv,nv,key,ns)],Lf') tR ⟨⟨r',Dm,hL⟩,Hd⟩ hLt
  subst hn6
  have hr0:r=[]:=by
    have:=UL.length_eq;rw[zaf]at this;exact zbg this.symm
  subst hr0;rw[zbw]at Yh;refine Zb1 ?_;exact⟨pre,Yh,(Sep.ahw (H5.aX.bH) At3)⟩
theorem Z4 {bg bh keys:Nat} (hp:(star (blk bg (qR keys sums bh) 118) (FV bh sums E)).ok F w) (hn:E.length<=200) (hEk: ∀x∈E,x.key.length=keys) (Lv:sums<=16):
    aR prog 360 [ay bg] w λu w'=>∃x:Value×List Held,u=x.1/\x.2.map (·.2)=lT sums E/\Turn F (star (dV x.1 x.2) (star (blk bg (qR keys sums bh) 118) (FV bh sums E))) w w':=by
  have G1:=(Sep.bR hp).bL;obtain⟨L,hS,H⟩:=QY G1.aG;have hLl:=agS hS;refine cK func360 ?_;refine Kz (Ng (H.obj At2)) (λ_ _ _=>?_);refine Qn (Cd rfl (λk=>?_) (λk=>?_))
  . exact Bool.noConfusion k
  refine Az (λb3 _ _ _=>?_);refine Nz (ad6 bh) (λb1 k _ S _=>?_);refine Zb0 ?_;have hLn: ∀s∈L,s.2.2.1.length<=16/\s.2.2.2.length<=17:=λs hs=>⟨(hS.fit s hs).2,by rw[ML (hS.is s hs),lg];omega⟩
  have qy: ∀s∈L,s.1.oneCell'=true/\s.2.1.oneCell'=true:=λs hs=>by
    have h1:=(Sep.sees S At2 s hs).1;obtain⟨_,_,e1,_⟩:=h1.1;obtain⟨_,_,e2,_⟩:=h1.2;rw[e1,e2];exact⟨rfl,rfl⟩
  have HJ:Mw.Sep w F (akJ b3 L []::[blk b1 [.map (some bh)] 116,gQ bh (L.map gZ),blk bg (qR keys sums bh) 118]) k:=by
    have h1:=(Sep.fT (bD S.aN) 39 2).aQ.aQ.aN.aQ;exact Sep.uF (p:=λz:Value×List Held=>star (jB (z.2.map (·.2)=BA [])) (star (blk b3 [z.1] 27) (star (dV z.1 z.2) (fQ λw=>gI w L)))) (.slice none 0 0,[]) (Sep.aQ (Sep.lu rfl h1))
  refine aev (gf:=376) (lb:=[ay b1]) akI (λpre=>∃r,(pre++r).Perm L) (λxs=>xs.Perm L) (akJ b3 L) _ [gQ bh (L.map gZ),blk bg (qR keys sums bh) 118] HJ rfl rfl ?_ ?_ ?_
  . intro l D ro rb pre x Fr W jA HW
    obtain⟨r,Dm⟩:=jA;have hsL:x∈L:=Dm.mem_iff.1 (zcn _ (zct _ (zau.2 rfl)))
    have Py:pre.length<=L.length:=by
      have:=Dm.length_eq;rw[zad,zad]at this;omega
    obtain⟨kv,nv,key,ns⟩:=x;obtain⟨ho1,ho2⟩:=qy _ hsL;obtain⟨hl1,hl2⟩:=hLn _ hsL;dsimp only at ho1 ho2 hl1 hl2;refine Zb0 ?_;refine M7 HW (h:=λb17 _ S _=>?_);refine iy S (us:=[kv,nv]) (hv:=by simp[ho1,ho2]) (h:=λ_ S=>?_);refine xK (qI ?_);refine⟨[blk _ [kv,nv] 416],Sep.FZ S,λWB HB=>?_⟩;obtain⟨⟨xv,LI⟩,HB1⟩:=Sep.ex0 (Sep.aX HB);obtain⟨hLI,HB2⟩:=Sep.tC HB1.bL;replace HB2:=HB2.bL.aG.bL;dsimp only at hLI HB2
    have asa:LI.length<=200:=by
      have h1:=zaw List.length hLI;rw[zaf]at h1;have h2:=Js pre;omega
    refine Dz (λS _ k=>?_);refine Zb2 ?_;refine dY S 2 [(0,false)] k (TS 1 (Sep.sees k At1 _ hsL).1.1 (Sep.sees k At1 _ hsL).1.2 dO dO) (h:=λy _ hy k _=>?_);obtain⟨yv,Ly⟩:=y;dsimp only at hy k
    have hyl:Ly.length<=1:=by
      have h1:=zaw List.length hy;rw[zaf]at h1;have h2:=rF ns key 1;omega
    refine⟨sL,?_⟩;refine CX S 3 _ k oM (h:=λv18 _ k=>?_);obtain⟨X18,c18,rfl,_,_⟩:=Sep.bJ (k.bL) At0;refine⟨sT,?_⟩;refine lX S 4 _ k (h:=λ_ k=>⟨sT,?_⟩);refine fK S kR ?_;refine vU (qI ?_);have h1:=k.aQ.aG.aQ;exact(Sep.aX (Sep.uF (p:=λz:Value×List Held=>star (jB (z.2.map (·.2)=BA (pre++[((kv,nv,key,ns):gu)]))) (star (blk b3 [z.1] 27) (star (dV z.1 z.2) (fQ λw=>gI w L)))) (.slice X18 (aO (LI++Ly)).length c18,LI++Ly) (Sep.aQ (Sep.lu (by dsimp only;rw[zai,hLI,hy,ZX]) h1)))).bH.FZ
  . intro l D ro W HW hy
    exact Z0 qy HW hy
  intro D k xs hxs HD;obtain⟨⟨xv,LI⟩,HD1⟩:=Sep.ex0 HD.aG;obtain⟨hLI,HD2⟩:=Sep.tC HD1.bL;have k:=HD2.bL.aG.bL;dsimp only at hLI k
  have asa:LI.length<=200:=by
    have h1:=zaw List.length hLI;rw[zaf]at h1;have h2:=Js xs;have h3:=hxs.length_eq;omega
  have ais: ∀o∈LI.map (·.2),fits o.w/\o.row.length<=1000:=λo ho=>by
    rw[hLI]at ho;obtain⟨s,hs,ho⟩:=zca.1 ho;have h1:=yQ ho;have h2:=hLn s (hxs.mem_iff.1 hs);exact⟨by rw[h1.2];exact⟨dC,dC⟩,by rw[h1.1,zad,zaf];omega⟩
  refine Nz (FP (fV k At0) (by rw[zaf];omega) (λo ho=>(ais o ho).1) (λo ho=>(ais o ho).2)) (λy _ hy k _=>?_);obtain⟨yv,Ly⟩:=y;rw[hLI,ZY hS hEk hxs]at hy;dsimp only at hy k ⊢;refine Za7 ?_;refine Qn (LY (ahn k At4 (hR:=λ_ k=>?_)));exact⟨(yv,Ly),rfl,hy,by
  have h1:=k;exact((yO (h1.jZ.jZ.gG) hS).aG.aQ.aG.aQ.first).turn⟩
def Xl (sums:Nat) (k:List aC):List aC×List Int:=(k,List.replicate (sums+1) 0)
def alT (sums:Nat) (l:List bC) (k:List aC):List aC×List Int:=(k,dW sums l k)
def qH (l:List bC) (key:List aC) (k:Nat):List Int:=(List.range k).map λq=>jD l key (q+1)
def Z5 (l:List bC) (key:List aC) (k:Nat):qH l key k++[jD l key (k+1)]=qH l key (k+1):=by unfold qH;rw[List.range_succ,zai];rfl
def ad7 (sums:Nat) (l:List bC) (key:List aC):jD l key 0::qH l key sums=dW sums l key:=by
 unfold qH dW;rw[List.range_succ_eq_map,zav,zdh];rfl
def ad8 (l:List bC) (key:List aC) (k:Nat):(qH l key k).length=k:=by unfold qH;rw[zaf,zea]
def KN (keys sums:Nat) (l:List bC):Int:=if(l.all λx=>qo keys sums x)=false then 2 else if vO sums l=false then 50 else 0
def Q7 {keys:Nat} {l:List bC} {k:List aC} {i:Nat} (hm:(l.all λx=>qo keys sums x)=true) (hi:i<=sums) (hf:aW (jD l k i)≠true):KN keys sums l=50:=by
 have :vO sums l=false:=by
  cases h:vO sums l with
  | false=>rfl
  | true=>exact zar (uK.1 h k i hi) hf
 unfold KN;rw[zab (by rw[hm];decide),zac this]
def agT {keys sums:Nat} {l:List bC} (hm:(l.all λx=>qo keys sums x)=true) (hf: ∀k∈fU l,∀i,i<=sums->aW (jD l k i)=true):KN keys sums l=0:=by
 have :vO sums l=true:=uK.2 λk i hi=>by
  by_cases hk:k∈fU l
  .exact hf k hk i hi
  rw[uJ (l:=l) λx hx e=>hk ((oF l).2 ⟨x,hx,e⟩)];exact aa2
 unfold KN;rw[zab (by rw[hm];decide),zab (by rw[this];decide)]
def abJ {o:Option Nat}:zq o<0↔o=none:=by
 cases o with
 | none=>exact⟨λ_=>rfl,λ_=>dC⟩
 | some i=>exact⟨λh=>by unfold zq at h;dsimp only at h;omega,λh=>by cases h⟩
variable {v:Value}
def abK {w0:Wd} {S:NP} {rs:List HP} {e n:Nat} (H:Mw.Sep w0 S (uR e 1 v n ((List.replicate n (0:Int)).flatMap oH)::rs) w):Mw.Sep w0 S (aY e 1 oH v (List.replicate n 0)::rs) w:=by
 unfold aY;rw[zcv];exact H
def agU {α β:Type} {K:List α} {j:Nat} {k:α} (f g:α->β) (h:K[j]? =some k):((K.take j).map f++(K.drop j).map g).set j (f k)=(K.take (j+1)).map f++(K.drop (j+1)).map g:=by
 obtain⟨hj,e⟩:=zbb.1 h;rw[zeu _ _ (by rw[zaf,zah];omega),zaf,zah,zdc oM,zen,zbn hj,zav,zdr,zay,h,zcw,zai,zbm];rfl
def Xm (G:List oI):HP:=fQ λw=>jT w G
def jT.push {G:List oI} {g:oI} (h:jT w G) (h1:aJ w g.1 ah 3 g.2.2.1) (h2:aJ w g.2.1 oH 1 (g.2.2.2.drop 1)):jT w (G++[g]):=λx hx=>by
 rcases zbk.1 hx with hx | hx
 .exact h x hx
 rw[zau]at hx;subst hx;exact⟨h1,h2⟩
def jT.set {G:List oI} {g:oI} (j:Nat) (h:jT w G) (h1:aJ w g.1 ah 3 g.2.2.1) (h2:aJ w g.2.1 oH 1 (g.2.2.2.drop 1)):jT w (G.set j g):=λx hx=>by
 rcases List.mem_or_eq_of_mem_set hx with hx | hx
 .exact h x hx
 subst hx;exact⟨h1,h2⟩
set_option maxHeartbeats 1000000 in
theorem TY {bg keys:Nat} {Z:List vR} (hp:(blk bg (yN keys sums (.slice none 0 0)) 185).ok F w)
    (hv: ∀w1,Kept F w w1->aJ w1 v qw 3 Z) (hZ: ∀w1,Kept F w w1->yM w1 Z) (hkm:keys<=16) (Lv:sums<=16) (hf: ∀z∈Z,fits z.2.2.w/\∀c∈z.2.2.vals,fits c.n) (hn:Z.length<=100):
    aR Tryz.prog 65 [ay bg,v] w λu w'=>∃(x gv:Value) (G:List oI),u=.tuple #[x,I (KN keys sums (Z.map (·.2.2)))]/\(KN keys sums (Z.map (·.2.2))=0->G.map (·.2.2)=af6 sums (Z.map (·.2.2)) (fU (Z.map (·.2.2))))/\
      Turn F (star (blk bg (yN keys sums gv) 185) (fQ λw=>aJ w gv grC 3 G/\jT w G)) w w':=by
  have H:=Sep.bR hp;obtain⟨gl,JQ⟩: ∃gl,gl=Z.map (λz=>z.2.2):=⟨_,rfl⟩;rw[<-JQ];have hgn:gl.length<=100:=by rw[JQ,zaf];exact hn
  have Px:=yP gl;obtain⟨A,m,rfl,⟨hm,om⟩,_⟩:=hv w (Kept.refl _ _);refine bQ Tryz.func65 ?_;refine Zb3 ?_;refine aI (λi:Nat=>[(0,ay bg),(1,.slice A Z.length m),(6,I i)]) (λi w'=>(i<=Z.length/\∀z∈Z.take i,qo keys sums z.2.2=true)/\Mw.Sep w F [blk bg (yN keys sums (.slice none 0 0)) 185] w') (λi _=>Z.length-i) 0 tR ⟨⟨zak _,λz hz=>zar hz zan⟩,H⟩ (λi τ w5 hI=>?_);obtain⟨⟨hi,hmi⟩,H5⟩:=hI;refine Lp ?_;refine Cz (λIe=>?_) (λIe=>?_)
  . have aS:i<Z.length:=oM
    obtain⟨z,hz⟩:=get_some aS;have OI:=zag hz;refine Zb3 ?_;refine Vv (Gives.fF rfl rfl (eO (hv _ H5.kept)) aS) (Vv (Gives.iH rfl (Sep.aF _) (eO (hv _ H5.kept)) hz) ?_);refine Kz (ZR (H5.obj At0) (hZ _ H5.kept _ OI).1 (hZ _ H5.kept _ OI).2) (λwa Ha ka=>?_);refine Vv (Gives.not rfl) (Qn ?_);refine Cd rfl (λIf=>?_) (λIf=>?_)
    . have jN:KN keys sums gl=2:=by
        unfold KN;rw[zac];have hf:qo keys sums z.2.2=false:=by simpa using If
        rw[JQ,zgg];exact List.all_eq_false.2 ⟨z,OI,by show ¬qo keys sums z.2.2=true;rw[hf];decide⟩
      refine Zb2 ?_;exact⟨_,.slice none 0 0,[],by rw[jN];rfl,λh=>zar (jN.symm.trans h) dC,(Sep.qE Ha (X:=λw=>aJ w (.slice none 0 0) grC 3 []/\jT w []) (λw=>⟨qd _ _ _,λg hg=>zar hg zan⟩)).aG.aQ.turn⟩
    have KF:qo keys sums z.2.2=true:=by simpa using If
    refine Zb1 ?_;refine Vc ((i+1:Nat):Int) ?_;refine Zb1 ?_;exact aj (i+1) tR ⟨⟨oM,λy hy=>by
    rw[zay,hz]at hy
    rcases zbk.1 hy with hy | hy
    . exact hmi y hy
    rw[zcw,zau]at hy;rw[hy];exact KF⟩,Ha⟩ oM
  have jF:Z.take i=Z:=zaj oM;rw[jF]at hmi
  have xZ:(gl.all λx=>qo keys sums x)=true:=by
    rw[JQ,zgg,zaz];exact λz hz=>hmi z hz
  have hmz: ∀z∈Z,z.2.2.key.length=keys/\z.2.2.vals.length=sums:=λz hz=>by
    have:=hmi z hz;unfold qo at this;rw[zbq,decide_eq_true_iff]at this;exact this.1
  refine Zb6 ?_;refine QE (v:=.slice none 0 0) (k:=0) (m:=0) (c:=0) (xs:=[]) (news:=[]) (A:=none) (Sep.iW H5 190 3 grC) rfl rfl At0 (gY.nil _ _ _) (λu hu=>zar hu zan) (h63:=by decide) (hbytes:=by decide) (h:=?_);intro v37 wb Hb;obtain⟨X0,cX0,rfl,_,_⟩:=Sep.bJ (l:=([]:List oI)) (enc:=grC) Hb At0;refine Zb2 ?_;refine aI (λx:(OA×Nat)×List oI×Nat=>[(0,ay bg),(1,.slice A Z.length m),(7,.slice x.1.1 x.2.1.length x.1.2),(8,I x.2.2)]) (λx w'=>(x.2.2<=Z.length/\x.2.1.map (·.2.2)=(fU ((Z.take x.2.2).map (·.2.2))).map (Xl sums))/\Mw.Sep w F [aY 190 3 grC (.slice x.1.1 x.2.1.length x.1.2) x.2.1,Xm x.2.1,blk bg (yN keys sums (.slice none 0 0)) 185] w') (λx _=>Z.length-x.2.2) ((X0,cX0),[],0) tR ⟨⟨zak _,rfl⟩,(Sep.qE Hb (X:=λw=>jT w []) (λw g hg=>zar hg zan)).aG⟩ (λx τ wc hI=>?_);obtain⟨⟨X,cX⟩,G,i⟩:=x;obtain⟨⟨hi,YD⟩,Hc⟩:=hI;dsimp only at hi YD Hc
  have hGl:G.length<=i:=by
    have h1:=zaw List.length YD;rw[zaf,zaf]at h1;have h2:=yP ((Z.take i).map (·.2.2));rw[zaf,zah]at h2;omega
  have hGk:G.map (·.2.2.1)=fU ((Z.take i).map (·.2.2)):=by
    have h1:=zaw (List.map Prod.fst) YD;rw[zdh,zdh]at h1;rw[show((λg:oI=>g.2.2.1))=Prod.fst∘(λg:oI=>g.2.2)from rfl,h1];exact List.map_id _
  refine Lp ?_;refine Cz (λIg=>?_) (λIg=>?_)
  . have aS:i<Z.length:=oM
    obtain⟨z,hz⟩:=get_some aS;have OI:=zag hz;have hT1:(Z.take (i+1)).map (λz=>z.2.2)=(Z.take i).map (λz=>z.2.2)++[z.2.2]:=by rw[zay,hz,zai];rfl
    obtain⟨kv,vv,e⟩:=z;have hkw: ∀w1,Kept F w w1->aJ w1 kv ah 3 e.key:=λw1 h1=>(hZ w1 h1 _ OI).1;have hek:e.key.length<=16:=by have:=(hmz _ OI).1;dsimp only at this;omega
    dsimp only at hT1;refine Zb3 ?_;refine Vv (Gives.fF rfl rfl (eO (hv _ Hc.kept)) aS) (Zb1 ?_);refine Vv (Gives.dz (f:=0) rfl (Sep.aF _) (eO (hv _ Hc.kept)) hz rfl) (Kz (agP (jG Hc At0) (Sep.sees Hc At1) (hkw _ Hc.kept)) (λwd Hd kb=>?_));refine Vl ?_;refine Cz (λIh=>?_) (λIh=>?_)
    . have l9:e.key∉fU ((Z.take i).map λz=>z.2.2):=λhm=>by
        rw[<-hGk]at hm;obtain⟨g,hg,e2⟩:=zaq.1 hm;exact zcx.1 (abJ.1 Ih) g hg |> λh=>by simp[e2]at h
      refine Dz (λSa we He=>?_);refine Zb3 ?_;refine Gp Sa 3 rfl rfl (λ_=>(Gives.fF rfl rfl (eO (hv _ He.kept)) aS)) (Zb1 ?_);refine GS (Gt rfl (Gives.dz (f:=0) rfl (Sep.aF _) (eO (hv _ He.kept)) hz rfl) ?_);refine Gm Sa 7 ?_;refine Zb3 ?_;refine j4 Sa (e1:=6) (e2:=11) kR ?_ ?_
      . refine mO Sa 6 [(10,false),(9,true),(8,true),(7,true),(0,true)] He (mF (hkw _ He.kept) oM) (h:=λy wf _ Hf kc=>?_)
        obtain⟨Y,cy,rfl,_,_⟩:=Sep.bJ Hf At0;refine⟨sL,?_⟩;refine abH (t:=188) Sa 11 _ Hf (k:=sums) (cs:=(List.replicate sums (0:Int)).flatMap oH) (hcs:=by exact rO (enc:=oH) dC 0 sums) (hk:=by unfold maxLen;omega) (hb:=by omega) (h:=λbw wg Hg=>?_);have Hg:=abK (Sep.nM (n:=sums) (s:=1) Hg At0 (by rw[jq (je.len (enc:=oH) (k:=1)),zcv]) (by unfold maxLen;omega));refine⟨sT,?_⟩;refine Gb Sa 12 (grC (.slice Y e.key.length cy,.slice (some ⟨bw,0,none⟩) sums sums,e.key,List.replicate (sums+1) 0)) ?_;refine Gz Sa 13 _ Hg ([((.slice Y e.key.length cy,.slice (some ⟨bw,0,none⟩) sums sums,e.key,List.replicate (sums+1) 0):oI)].flatMap grC) (h:=λbq wh Hh=>⟨sT,?_⟩);refine gF Sa 14 _ Hh (news:=[((.slice Y e.key.length cy,.slice (some ⟨bw,0,none⟩) sums sums,e.key,List.replicate (sums+1) 0):oI)]) At2 (by unfold maxLen;simp only[zae];omega) (by simp only[zae];omega) (λu hu=>zaz.1 (show([((.slice Y e.key.length cy,.slice (some ⟨bw,0,none⟩) sums sums,e.key,List.replicate (sums+1) 0):oI)].flatMap grC).all Value.oneCell'=true from rfl) u hu) (h:=λv66 wi Hi=>?_);obtain⟨X2,cX2,rfl,_,_⟩:=Sep.bJ Hi At2;refine⟨sT,?_⟩;refine sH Sa 15 _ (h:=⟨sT,?_⟩);refine Zb1 ?_;refine Vc ((i+1:Nat):Int) ?_;refine Zb1 ?_;have h1:Mw.Sep w F [aY 2 1 oH (.slice (some ⟨bw,0,none⟩) sums sums) (List.replicate sums 0),aY 41 3 ah (.slice Y e.key.length cy) e.key,aY 190 3 grC (.slice X2 (G++[((.slice Y e.key.length cy,.slice (some ⟨bw,0,none⟩) sums sums,e.key,List.replicate (sums+1) 0):oI)]).length cX2) (G++[((.slice Y e.key.length cy,.slice (some ⟨bw,0,none⟩) sums sums,e.key,List.replicate (sums+1) 0):oI)]),Xm G,blk bg (yN keys sums (.slice none 0 0)) 185] wi:=by first | exact Hi | exact Hi.aG
        have h2:=dU (dU h1 At0) At1;have h3:=Sep.l6 (Z:=λw=>aJ w (.slice Y e.key.length cy) ah 3 e.key/\aJ w (.slice (some ⟨bw,0,none⟩) sums sums) oH 1 (List.replicate sums 0)) h2 (λw a b=>⟨b,a⟩);have h4:=Sep.l6 (Z:=λw=>jT w (G++[((.slice Y e.key.length cy,.slice (some ⟨bw,0,none⟩) sums sums,e.key,List.replicate (sums+1) 0):oI)])) h3.aN (λw a b=>a.push b.1 b.2);exact aj ((X2,cX2),G++[(.slice Y e.key.length cy,.slice (some ⟨bw,0,none⟩) sums sums,e.key,List.replicate (sums+1) 0)],i+1) tR ⟨⟨dO,by dsimp only;rw[hT1,nT,zab l9,zai,zai,YD];rfl⟩,h4.aG⟩ dO
      refine Nh (t:=188) Sa 11 [(5,false),(4,true),(3,true),(2,true),(1,true),(0,true)] He (k:=sums) (cs:=(List.replicate sums (0:Int)).flatMap oH) (hcs:=by exact rO (enc:=oH) dC 0 sums) (hk:=by unfold maxLen;omega) (hb:=by omega) (h:=λbw wj Hj=>?_);have Hj:=abK (Sep.nM (n:=sums) (s:=1) Hj At0 (by rw[jq (je.len (enc:=oH) (k:=1)),zcv]) (by unfold maxLen;omega));refine⟨(bK rfl kR (Gives.dz (f:=0) rfl (Sep.aF _) (eO (hv _ Hj.kept)) hz rfl) rfl (av (av (av (av (av (eu))))))),?_⟩;refine dY Sa 6 _ Hj (mF (hkw _ Hj.kept) oM) (h:=λy wk _ Hk kd=>?_);obtain⟨Y,cy,rfl,_,_⟩:=Sep.bJ Hk At0;refine⟨sT,?_⟩;refine Gb Sa 12 (grC (.slice Y e.key.length cy,.slice (some ⟨bw,0,none⟩) sums sums,e.key,List.replicate (sums+1) 0)) ?_;refine Gz Sa 13 _ Hk ([((.slice Y e.key.length cy,.slice (some ⟨bw,0,none⟩) sums sums,e.key,List.replicate (sums+1) 0):oI)].flatMap grC) (h:=λbq wl Hl=>⟨sT,?_⟩);refine gF Sa 14 _ Hl (news:=[((.slice Y e.key.length cy,.slice (some ⟨bw,0,none⟩) sums sums,e.key,List.replicate (sums+1) 0):oI)]) At2 (by unfold maxLen;simp only[zae];omega) (by simp only[zae];omega) (λu hu=>zaz.1 (show([((.slice Y e.key.length cy,.slice (some ⟨bw,0,none⟩) sums sums,e.key,List.replicate (sums+1) 0):oI)].flatMap grC).all Value.oneCell'=true from rfl) u hu) (h:=λv66 wm Hm=>?_);obtain⟨X2,cX2,rfl,_,_⟩:=Sep.bJ Hm At2;refine⟨sT,?_⟩;refine sH Sa 15 _ (h:=⟨sT,?_⟩);refine Zb1 ?_
      refine Vc ((i+1:Nat):Int) ?_;refine Zb1 ?_;have h1:Mw.Sep w F [aY 2 1 oH (.slice (some ⟨bw,0,none⟩) sums sums) (List.replicate sums 0),aY 41 3 ah (.slice Y e.key.length cy) e.key,aY 190 3 grC (.slice X2 (G++[((.slice Y e.key.length cy,.slice (some ⟨bw,0,none⟩) sums sums,e.key,List.replicate (sums+1) 0):oI)]).length cX2) (G++[((.slice Y e.key.length cy,.slice (some ⟨bw,0,none⟩) sums sums,e.key,List.replicate (sums+1) 0):oI)]),Xm G,blk bg (yN keys sums (.slice none 0 0)) 185] wm:=by first | exact Hm | exact Hm.aG
      have h2:=dU (dU h1 At0) At1;have h3:=Sep.l6 (Z:=λw=>aJ w (.slice Y e.key.length cy) ah 3 e.key/\aJ w (.slice (some ⟨bw,0,none⟩) sums sums) oH 1 (List.replicate sums 0)) h2 (λw a b=>⟨b,a⟩);have h4:=Sep.l6 (Z:=λw=>jT w (G++[((.slice Y e.key.length cy,.slice (some ⟨bw,0,none⟩) sums sums,e.key,List.replicate (sums+1) 0):oI)])) h3.aN (λw a b=>a.push b.1 b.2);exact aj ((X2,cX2),G++[(.slice Y e.key.length cy,.slice (some ⟨bw,0,none⟩) sums sums,e.key,List.replicate (sums+1) 0)],i+1) tR ⟨⟨dO,by dsimp only;rw[hT1,nT,zab l9,zai,zai,YD];rfl⟩,h4.aG⟩ dO
    have EH:e.key∈fU ((Z.take i).map λz=>z.2.2):=Classical.byContradiction λhm=>Ih (abJ.2 (zcx.2 λg hg=>by
      refine zal λe2=>hm ?_;rw[<-hGk,<-e2];exact zaq.2 ⟨g,hg,rfl⟩))
    refine Zb1 ?_;refine Vc ((i+1:Nat):Int) ?_;refine Zb1 ?_;exact aj ((X,cX),G,i+1) tR ⟨⟨dO,by dsimp only;rw[hT1,nT,zac EH];exact YD⟩,Hd⟩ dO
  have jF:Z.take i=Z:=zaj oM;rw[jF,<-JQ]at YD hGk;refine Zb1 ?_;refine aI (λx:List oI×Nat=>[(0,ay bg),(1,.slice A Z.length m),(7,.slice X x.1.length cX),(9,I x.2)]) (λx w'=>(x.2<=x.1.length/\x.1.length=(fU gl).length/\x.1.map (·.2.2)=((fU gl).take x.2).map (alT sums gl)++((fU gl).drop x.2).map (Xl sums)/\∀k∈(fU gl).take x.2,∀i,i<=sums->aW (jD gl k i)=true)/\Mw.Sep w F [aY 190 3 grC (.slice X x.1.length cX) x.1,Xm x.1,blk bg (yN keys sums (.slice none 0 0)) 185] w') (λx _=>x.1.length-x.2) (G,0) tR ⟨⟨zak _,by have h1:=zaw List.length YD;rw[zaf,zaf]at h1;exact h1,by rw[zdf,zdd];exact YD,λk hk=>zar hk (by rw[zdf];exact zan)⟩,Hc⟩ (λx τ wn hI=>?_);clear YD hGk;obtain⟨G,j⟩:=x;obtain⟨⟨hj,ao9,YD,hfj⟩,Hn⟩:=hI;dsimp only at hj ao9 YD hfj Hn;refine Lp ?_;refine Cz (λIi=>?_) (λIi=>?_)
  . have aS:j<G.length:=oM
    obtain⟨key,hkj⟩:=get_some (l:=fU gl) (show j<(fU gl).length from oM);obtain⟨gj,hgj⟩:=get_some aS;have hgm:=zag hgj
    have hgz:gj.2.2=Xl sums key:=by
      have h1:(G.map (·.2.2))[j]? =(((fU gl).take j).map (alT sums gl)++((fU gl).drop j).map (Xl sums))[j]? :=by rw[YD]
      rw[zbz,hgj,zby (by rw[zaf,zah];omega),zaf,zah,zdc oM,zen,zbz,zci,zfb,hkj]at h1;injection h1
    obtain⟨kv,sv,key2,ns2⟩:=gj;injection hgz with e1 e2
    subst e1;subst e2;have U2:jT _ G:=Sep.sees Hn At1;have amW:aJ _ kv ah 3 key2:=(U2 _ hgm).1;have amX:aJ _ sv oH 1 ((List.replicate (sums+1) (0:Int)).drop 1):=(U2 _ hgm).2;obtain⟨K,ck,rfl,_,_⟩:=amW;obtain⟨V,cV,rfl,_,_⟩:=amX
    have hkl:key2.length<=16:=by
      obtain⟨x,hx,e⟩:=(oF gl).1 (zag hkj);rw[JQ]at hx;obtain⟨z,hz,rfl⟩:=zaq.1 hx;have:=(hmz z hz).1;rw[<-e];omega
    have hvl:((List.replicate (sums+1) (0:Int)).drop 1).length=sums:=by rw[zbo,zcv];omega
    obtain⟨T0,hT0⟩: ∃T0,T0=jD gl key2 0:=⟨_,rfl⟩;refine Zb2 ?_;refine Vv (Gives.fF rfl rfl (eX Hn At0) aS) (Vv (Gives.oW rfl (eX Hn At0) hgj) ?_);refine Az (λb10 wo Ho ke=>?_);refine Tz (λwp Hp=>?_);refine Kz (aju (base:=0) 0 (hv _ Hp.kept) (hZ _ Hp.kept) (Sep.sees Hp At2 _ hgm).1 oM ⟨dC,dC⟩ hf (λz hz=>oM)) (λwq Hq kf=>?_);rw[<-JQ,Int.zero_add,<-hT0];obtain⟨n1,Ag⟩: ∃n1:Int,n1=if aW T0=true then T0 else 0:=⟨_,rfl⟩
    obtain⟨e1,KH⟩: ∃e1:Int,e1=if aW T0=true then 0 else 50:=⟨_,rfl⟩
    rw[<-Ag,<-KH];refine Cz (λIj=>?_) (λIj=>?_)
    . have Yp:aW T0≠true:=λh=>Ij (by rw[KH,zac h])
      rw[zab Yp]at KH;have jN:KN keys sums gl=50:=Q7 (i:=0) xZ (zak _) (by rw[<-hT0];exact Yp);refine Zb3 ?_;subst KH;exact⟨_,.slice none 0 0,[],by rw[jN];rfl,λh=>zar (jN.symm.trans h) dC,(Sep.qE (Hq.aX.first) (X:=λw=>aJ w (.slice none 0 0) grC 3 []/\jT w []) (λw=>⟨qd _ _ _,λg hg=>zar hg zan⟩)).aG.aQ.turn⟩
    have he0:e1=0:=Decidable.of_not_not Ij
    have Yp:aW T0=true:=by
      cases h:aW T0 with
      | true=>rfl
      | false=>rw[h,zab dC]at KH;omega
    rw[zac Yp]at Ag;refine Zb2 ?_;refine aI (λx:(OA×Nat)×Nat=>[(0,ay bg),(1,.slice A Z.length m),(7,.slice X G.length cX),(9,I j),(10,ay b10),(11,I n1),(13,.slice x.1.1 (qH gl key2 x.2).length x.1.2),(14,I x.2)]) (λx w'=>(x.2<=sums/\∀q,q<x.2->aW (jD gl key2 (q+1))=true)/\Mw.Sep w F [aY 2 1 oH (.slice x.1.1 (qH gl key2 x.2).length x.1.2) (qH gl key2 x.2),blk b10 (grC (.slice K key2.length ck,.slice V ((List.replicate (sums+1) (0:Int)).drop 1).length cV,key2,List.replicate (sums+1) 0)) 190,aY 190 3 grC (.slice X G.length cX) G,Xm G,blk bg (yN keys sums (.slice none 0 0)) 185] w') (λx _=>sums-x.2) ((none,0),0) tR ⟨⟨zak _,λq hq=>oM⟩,Sep.iW Hq 2 1 oH⟩ (λx τ wr hI=>?_);obtain⟨⟨S0,cS⟩,q⟩:=x;obtain⟨⟨hq,hfq⟩,Hr⟩:=hI;dsimp only at hq hfq Hr;have X9:=ad8 gl key2 q;refine Lp ?_;refine Cz (λIk=>?_) (λIk=>?_)
    . have avc:q<sums:=oM
      have hzq:((List.replicate (sums+1) (0:Int)).drop 1)[q]? =some 0:=by rw[zci,List.getElem?_replicate,zac oM]
      obtain⟨T1,hT1⟩: ∃T1,T1=jD gl key2 (q+1):=⟨_,rfl⟩;refine Dz (λSb ws Hs=>?_);refine Zb3 ?_;refine GS (Gn rfl (λ_=>Gives.fF rfl rfl (eO (Sep.sees Hs At3 _ hgm).2) oM) ?_);refine GS (Gt rfl (Gives.dz (f:=0) rfl (Sep.aF _) (eO (Sep.sees Hs At3 _ hgm).2) hzq rfl) ?_);refine Zb4 ?_;refine dB Sb 9 _ Hs (ajv (base:=0) q (hv _ Hs.kept) (hZ _ Hs.kept) (Sep.sees Hs At3 _ hgm).1 oM ⟨dC,dC⟩ hf (λz hz=>by have:=(hmz z hz).2;omega)) (h:=λwt Ht kg=>?_);rw[<-JQ,Int.zero_add,<-hT1];obtain⟨n2,Lm⟩: ∃n2:Int,n2=if aW T1=true then T1 else 0:=⟨_,rfl⟩
      obtain⟨e2,U0⟩: ∃e2:Int,e2=if aW T1=true then 0 else 50:=⟨_,rfl⟩
      rw[<-Lm,<-U0];refine⟨sT,?_⟩;refine Cz (λIl=>?_) (λIl=>?_)
      . have ait:aW T1≠true:=λh=>Il (by rw[U0,zac h])
        rw[zab ait]at U0;have jN:KN keys sums gl=50:=Q7 (i:=q+1) xZ oM (by rw[<-hT1];exact ait);refine Zb3 ?_;subst U0;exact⟨_,.slice none 0 0,[],by rw[jN];rfl,λh=>zar (jN.symm.trans h) dC,(Sep.qE (Ht.gG.first) (X:=λw=>aJ w (.slice none 0 0) grC 3 []/\jT w []) (λw=>⟨qd _ _ _,λg hg=>zar hg zan⟩)).aG.aQ.turn⟩
      have he0:e2=0:=Decidable.of_not_not Il
      have ait:aW T1=true:=by
        cases h:aW T1 with
        | true=>rfl
        | false=>rw[h,zab dC]at U0;omega
      rw[zac ait]at Lm;have OT:qH gl key2 q++[n2]=qH gl key2 (q+1):=by rw[Lm,hT1];exact Z5 gl key2 q
      refine Zb2 ?_;refine Bs Ht ([n2].flatMap oH) (λbq wu Hu kh=>?_);refine dG Hu (news:=[n2]) At0 (by unfold maxLen;simp only[zae];omega) (by simp only[zae];omega) (cells_one (λ_=>rfl) _) (h:=?_);intro v116 wv Hv;rw[OT]at Hv;obtain⟨S2,cS2,rfl,_,_⟩:=Sep.bJ Hv At0;refine Zb2 ?_;refine Vc ((q+1:Nat):Int) ?_;refine Zb1 ?_;exact aj ((S2,cS2),q+1) tR ⟨⟨dO,λp hp=>by
      dsimp only at hp
      by_cases e:p=q
      . rw[e,<-hT1];exact ait
      exact hfq p oM⟩,Hv⟩ dO
    have hqs:q=sums:=oM;subst hqs;refine Zb6 ?_;refine dw (Gives.build (out:=grC (.slice K key2.length ck,.slice S0 (qH gl key2 q).length cS,key2,dW q gl key2)) (by
    have e:grC ((.slice K key2.length ck,.slice S0 (qH gl key2 q).length cS,key2,dW q gl key2):oI)=[.slice K key2.length ck,I n1,.slice S0 (qH gl key2 q).length cS]:=by unfold grC;rw[Ag,hT0];dsimp only;rw[zF]
    rw[e];exact Fills.one rfl rfl rfl sM rfl (Fills.one rfl rfl rfl sM rfl (Fills.one rfl rfl rfl sM rfl Fills.nil)))) rfl ?_
    refine Vv (Gives.fF rfl rfl (eX Hr At2) aS) (ZB (i:=j) (a':=((.slice K key2.length ck,.slice S0 (qH gl key2 q).length cS,key2,dW q gl key2):oI)) rfl Hr At2 aS rfl (h:=λww Hw=>?_));refine Zb1 ?_;refine Vc ((j+1:Nat):Int) ?_;refine Zb1 ?_;have hdr:(dW q gl key2).drop 1=qH gl key2 q:=by rw[<-ad7];rfl
    have h1:=dU Hw At0;have h2:=Sep.l6 (Z:=λw=>jT w (G.set j ((.slice K key2.length ck,.slice S0 (qH gl key2 q).length cS,key2,dW q gl key2):oI))) (h1.aG.bH.aN) (λw a b=>a.set j (a _ hgm).1 (by dsimp only;rw[hdr];exact b))
    exact aj (G.set j (.slice K key2.length ck,.slice S0 (qH gl key2 q).length cS,key2,dW q gl key2),j+1) ⟨rfl,rfl,by dsimp only;rw[zdx];rfl,rfl,trivial⟩ ⟨⟨by dsimp only;rw[zdx];omega,by dsimp only;rw[zdx];exact ao9,by
      dsimp only;rw[List.map_set,YD];exact agU (alT q gl) (Xl q) hkj,λk hk i hi=>by
      dsimp only at hk;rw[zay,hkj]at hk
      rcases zbk.1 hk with hk | hk
      . exact hfj k hk i hi
      . rw[zcw,zau]at hk
        rw[hk];cases i with
        | zero=>rw[<-hT0];exact Yp
        | succ p=>exact hfq p oM⟩,by
      dsimp only;rw[zdx];exact h2.aG⟩ (by dsimp only;rw[zdx];omega)
  have jF:(fU gl).take j=fU gl:=zaj oM;have hdl:(fU gl).drop j=[]:=List.drop_eq_nil_of_le oM;rw[jF,hdl,zcl,zbw]at YD;rw[jF]at hfj;have ala:=agT (keys:=keys) xZ hfj;have hGe:G.map (·.2.2)=af6 sums gl (fU gl):=YD;refine Zb4 ?_
  have hgs: ∀g∈G,g.2.2.1.length<=16/\g.2.2.2.length<=17:=λg hg=>by
    have h1:g.2.2∈G.map (·.2.2):=zdn hg;rw[hGe]at h1;obtain⟨k,hk,e⟩:=zaq.1 h1;obtain⟨x,hx,e2⟩:=(oF gl).1 hk;rw[JQ]at hx;obtain⟨z,hz,rfl⟩:=zaq.1 hx;have h3:=(hmz z hz).1;rw[<-e];exact⟨by dsimp only;rw[<-e2];omega,by dsimp only;rw[lg];omega⟩
  refine Nz (Nn (G:=[]) (-1) (qd _ _ _) (λg hg=>zar hg zan) (zak _) (λg hg=>zar hg zan)) (λy wx hy Hx ki=>?_);obtain⟨yv,Ly⟩:=y;dsimp only at hy Hx ⊢;refine Mv ?_;refine Nz (Nn (G:=G) 1 (jG Hx At1) (Sep.sees Hx At2) oM (λg hg=>by have:=hgs g hg;omega)) (λy wy hz Hy kj=>?_);obtain⟨zv,Lz⟩:=y;dsimp only at hz Hy ⊢;have hyl:Ly=[]:=zgc.1 hy;subst hyl
  have hzl:Lz.length<=100:=by
    have h1:=zaw List.length hz;rw[zaf]at h1;have h2:=CW 1 (G.map (·.2.2));rw[zaf]at h2;omega
  refine ZU Hy (by simp only[zcb];omega) (h:=?_);intro v133 wz Hz;rw[zbu]at Hz
  have hro: ∀o∈Lz.map (·.2),fits o.w/\o.row.length<=1000:=λo ho=>by
    rw[hz]at ho;obtain⟨g2,UJ,e1,e2⟩:=Jp ho;obtain⟨g,hg,rfl⟩:=zaq.1 UJ;have h3:=hgs g hg;exact⟨by rw[e2];exact⟨dC,dC⟩,by rw[e1,zad,zaf];omega⟩
  refine Nz (Bz (fV Hz At0) (by rw[zaf];omega) (λo ho=>(hro o ho).1) (λo ho=>(hro o ho).2)) (λy wD Lm HA kk=>?_);refine Uz (λwE HB=>?_);refine Zb3 ?_;exact⟨_,.slice X G.length cX,G,by rw[ala];rfl,λ_=>hGe,by
  have h1:=dU HB At2;have h2:=Sep.l6 (Z:=λw=>aJ w (.slice X G.length cX) grC 3 G/\jT w G) h1.aX.aX (λw a b=>⟨a,b⟩);exact h2.aX.aQ.first.turn⟩
def mI (cv wv pv:Value) (g:Int) (ov kv:Value) (o1 o2 o3:Int) (fv:Value):LV:=[cv,wv,pv,I g,ov,kv,.int .u32 o1,.int .i32 o2,.int .u32 o3,fv]
def Xn {b:Nat} {E:Td} {cv wv pv ov kv fv:Value} {g o1 o2 o3:Int} {r:Bool} (hb:gM w b (mI cv wv pv g ov kv o1 o2 o3 fv) E) (hk:IsNil kv r):Rk Tryz.prog 31 [ay b] w (.bool r):=by
 haveI:IsIface Tryz.prog 72:=⟨by kernel_rfl⟩
 have H:=Sep.aF w;refine cK Tryz.func31 ?_;refine Zb4 ?_;refine dH (t:=5) rfl (λk=>?_) (λk=>?_)
 .refine Zb2 ?_
  (exfalso;simp at *)
 refine Zb3 ?_;refine dM (hb.keep H.kept) (h:=?_);refine On (Vv (Gives.Um hk rfl rfl) (Zb2 ?_));exact⟨rfl,H.kept⟩
def Jt {α:Type} {A:OA} {c k m:Nat} {enc:α->LV} [je enc k] {l:List α} (h:aJ w (.slice A l.length c) enc k l) (hm:m<=l.length):aJ w (.slice A m c) enc k (l.take m):=by
 obtain⟨A',c',e,⟨h1,h2⟩,hr⟩:=h;injection e with e1 e2 e3
 subst e1 e3;have hl:(l.take m).length=m:=by rw[zah];omega
 exact⟨A,c,by rw[hl],⟨by rw[hl];omega,h2⟩,hr.cut m⟩
def Kk {l:List bY} (hl:aJ w v aP 7 l):aR Tryz.prog 6 [v] w λu w'=>∃x,u=x/\True/\Turn noB (aY 67 7 aP x (l.take 12)) w w':=by
 have Gx:=hl;obtain⟨A,m,rfl,⟨hm,om⟩,hA⟩:=hl;obtain⟨n,hn⟩: ∃n:Nat,n=min l.length 12:=⟨_,rfl⟩;have akc:min (l.length:Int) 12=(n:Int):=oM
 have xY:l.take n=l.take 12:=by
  rcases Nat.le_total l.length 12 with h | h
  .rw[zaj oM,zaj h]
  rw[show n=12 from oM]
 have H:=Sep.aF w;refine cK Tryz.func6 ?_;refine Zb4 ?_;refine Vv (Gives.afW rfl rfl akc) (Vv (Gives.sliceTo (h:=n) rfl rfl oM) ?_);refine Nz (FR (Jt (m:=n) (Gx.keep H.kept) oM) (by rw[zah];omega)) (λx _ _ k _=>?_);rw[xY]at k;refine Zb1 ?_;exact⟨_,rfl,trivial,k.turn⟩
def mg (c:aC):aC:=⟨c.null,c.n,c.s.take 200⟩
def Pe (x:aH):aH:=⟨(x.row.take 12).map mg,x.w⟩
def uZ (l:List aH):List aH:=(l.take 10).map Pe
def agV (s:L8) (k:Nat):s.take (s.take k).length=s.take k:=by
 rw[zah]
 rcases Nat.le_total k s.length with h | h
 .rw[zdc h]
 rw[Nat.min_eq_right h,zaj (zbj _),zaj h]
theorem Ns {l:List aH} (hl:dI w v l):aR Tryz.prog 4 [v] w λu w'=>∃x:Value×List Held,u=x.1/\x.2.map (·.2)=uZ l/\Turn noB (dV x.1 x.2) w w':=by
 obtain⟨r,hr,eF⟩:=hl;obtain⟨A,m,rfl,⟨hm,om⟩,hA⟩:=hr;have zi:=eF.len;have H:=Sep.aF w;refine cK Tryz.func4 ?_;refine Zb3 ?_;refine aI (λx:(OA×Nat)×List Held×Nat=>[(0,.slice A r.length m),(3,.slice x.1.1 (aO x.2.1).length x.1.2),(4,I x.2.2)]) (λx w'=>(x.2.2<=r.length/\x.2.2<=10/\x.2.1.map (·.2)=(l.take x.2.2).map Pe)/\Mw.Sep w noB [aY 39 2 aA (.slice x.1.1 (aO x.2.1).length x.1.2) (aO x.2.1),nU x.2.1] w') (λx _=>r.length-x.2.2) ((none,0),[],0) tR ⟨⟨zak _,zak _,rfl⟩,Sep.fT (bD H) 39 2⟩ (λx τ _ hI=>?_);obtain⟨⟨R,cR⟩,L,i⟩:=x;obtain⟨⟨hi,asf,hL⟩,S⟩:=hI;dsimp only at hi asf hL S;have hLr:(aO L).length=L.length:=zaf _
 have hLi:L.length=i:=by
  have h1:=zaw List.length hL;rw[zaf,zaf,zah]at h1;omega
 refine Lp ?_;refine Sz (λa=>?_) (λa=>?_)
 .refine Cz (λa=>?_) (λa=>?_)
  .have aS:i<r.length:=oM
   obtain⟨o,ho⟩:=get_some (l:=l) (show i<l.length from oM);obtain⟨vo,zh,Dp⟩:=eF.get ho;obtain⟨V,cv,rfl,_,hV⟩:=Dp;refine Zb2 ?_;refine aI (λx:(OA×Nat)×Nat=>[(0,.slice A r.length m),(3,.slice R (aO L).length cR),(4,I i),(5,.slice x.1.1 ((o.row.take x.2).map mg).length x.1.2),(6,I x.2)]) (λx w'=>(x.2<=o.row.length/\x.2<=12)/\Mw.Sep w noB [aY 41 3 ah (.slice x.1.1 ((o.row.take x.2).map mg).length x.1.2) ((o.row.take x.2).map mg),aY 39 2 aA (.slice R (aO L).length cR) (aO L),nU L] w') (λx _=>o.row.length-x.2) ((none,0),0) tR ⟨⟨zak _,zak _⟩,Sep.iW S 41 3 ah⟩ (λx τ _ hK=>?_);obtain⟨⟨Y,cY⟩,k⟩:=x;obtain⟨⟨hk,asg⟩,a⟩:=hK;dsimp only at hk asg a;have hkl:((o.row.take k).map mg).length=k:=by rw[zaf,zah];omega
   refine Lp ?_;refine Zb3 ?_;refine Vv (Gives.fF rfl rfl hA aS) (Zb1 ?_);refine Vv (Gives.dz (f:=0) rfl a hA zh rfl) (Sz (λb=>?_) (λb=>?_))
   .refine Cz (λb=>?_) (λb=>?_)
    .have hlk:k<o.row.length:=oM
     obtain⟨c,hc⟩:=get_some hlk;have RI:(o.row.take k).map mg++[mg c]=(o.row.take (k+1)).map mg:=by rw[zay,hc,zai];rfl
     refine Zb2 ?_;refine Vv (Gives.fF rfl rfl hA aS) (Zb1 ?_);refine Vv (Gives.dz (f:=0) rfl a hA zh rfl) (Mv ?_);refine Vv (Gives.fF rfl rfl hV hlk) (Vv (Gives.iH rfl a hV hc) ?_);refine Az (λb7 _ _ _=>?_);refine Tz (λ_ _=>?_);refine Zb5 ?_;refine Vv (Gives.afW rfl rfl (MF c.s 200)) (Vv (Gives.sw (l:=c.s) (i:=(c.s.take 200).length) rfl rfl (by rw[zah];omega)) ?_);rw[agV];refine Vf ?_;refine Uz (λ_ b=>?_);refine Zb1 ?_;refine fE b (cs:=ah (mg c)) (h:=?_);refine Bs b ([mg c].flatMap ah) (λbs _ b _=>?_);refine dG b (news:=[mg c]) At1 (by unfold maxLen;simp only[zae];omega) (by simp only[zae];omega) (cells_one (λ_=>rfl) _) (h:=?_);intro v5 b b;rw[RI]at b;obtain⟨Y2,cY2,rfl,_,_⟩:=Sep.bJ b At1;refine Zb2 ?_;refine Vc ((k+1:Nat):Int) ?_;refine Zb1 ?_;exact aj ((Y2,cY2),k+1) tR ⟨⟨dO,dO⟩,b.bH⟩ dO
    refine Zb4 ?_;refine Vv (Gives.fF rfl rfl hA aS) (Zb1 ?_)
    have tq:(o.row.take k).map mg=(Pe o).row:=by
     unfold Pe;dsimp only
     first
     | rw[zaj (l:=o.row) (i:=k) oM,zaj (l:=o.row) (i:=12) oM]
     | rw[show k=12 from oM]
    refine Vv (Gives.dz (f:=1) rfl a hA zh rfl) (Vb (aA (.slice Y ((o.row.take k).map mg).length cY,o.w)) ?_);refine Bs a ([(Value.slice Y ((o.row.take k).map mg).length cY,o.w)].flatMap aA) (λbs _ b _=>?_);refine dG b (news:=[(Value.slice Y ((o.row.take k).map mg).length cY,o.w)]) At1 (by unfold maxLen;simp only[zae];omega) (by simp only[zae];omega) (λu hu=>zaz.1 (show([(Value.slice Y ((o.row.take k).map mg).length cY,o.w)].flatMap aA).all Value.oneCell'=true from rfl) u hu) (h:=?_);intro v9 b b;obtain⟨R2,cR2,rfl,_,_⟩:=Sep.bJ b At1;have Aj:=(iR (x:=.slice Y ((o.row.take k).map mg).length cY) (o:=⟨(o.row.take k).map mg,o.w⟩) (b.aN.aG)).aG
    have Cj:aO L++[(Value.slice Y ((o.row.take k).map mg).length cY,o.w)]=aO (L++[(Value.slice Y ((o.row.take k).map mg).length cY,(⟨(o.row.take k).map mg,o.w⟩:aH))]):=by
     unfold aO;rw[zai];rfl
    have Dn:(L++[(Value.slice Y ((o.row.take k).map mg).length cY,(⟨(o.row.take k).map mg,o.w⟩:aH))]).map (·.2)=(l.take (i+1)).map Pe:=by
     rw[zai,hL,zay,ho,zai,tq];rfl
    rw[Cj]at Aj ⊢;clear Cj
    generalize L++[(Value.slice Y ((o.row.take k).map mg).length cY,(⟨(o.row.take k).map mg,o.w⟩:aH))]=L2 at Aj Dn |-
    refine Zb2 ?_;refine Vc ((i+1:Nat):Int) ?_;refine Zb1 ?_;exact aj ((R2,cR2),L2,i+1) tR ⟨⟨dO,dO,Dn⟩,Aj⟩ dO
   refine Zb5 ?_;refine Vv (Gives.fF rfl rfl hA aS) (Zb1 ?_)
   have tq:(o.row.take k).map mg=(Pe o).row:=by
    unfold Pe;dsimp only
    first
    | rw[zaj (l:=o.row) (i:=k) oM,zaj (l:=o.row) (i:=12) oM]
    | rw[show k=12 from oM]
   refine Vv (Gives.dz (f:=1) rfl a hA zh rfl) (Vb (aA (.slice Y ((o.row.take k).map mg).length cY,o.w)) ?_);refine Bs a ([(Value.slice Y ((o.row.take k).map mg).length cY,o.w)].flatMap aA) (λbs _ b _=>?_);refine dG b (news:=[(Value.slice Y ((o.row.take k).map mg).length cY,o.w)]) At1 (by unfold maxLen;simp only[zae];omega) (by simp only[zae];omega) (λu hu=>zaz.1 (show([(Value.slice Y ((o.row.take k).map mg).length cY,o.w)].flatMap aA).all Value.oneCell'=true from rfl) u hu) (h:=?_);intro v9 b b;obtain⟨R2,cR2,rfl,_,_⟩:=Sep.bJ b At1;have Aj:=(iR (x:=.slice Y ((o.row.take k).map mg).length cY) (o:=⟨(o.row.take k).map mg,o.w⟩) (b.aN.aG)).aG
   have Cj:aO L++[(Value.slice Y ((o.row.take k).map mg).length cY,o.w)]=aO (L++[(Value.slice Y ((o.row.take k).map mg).length cY,(⟨(o.row.take k).map mg,o.w⟩:aH))]):=by
    unfold aO;rw[zai];rfl
   have Dn:(L++[(Value.slice Y ((o.row.take k).map mg).length cY,(⟨(o.row.take k).map mg,o.w⟩:aH))]).map (·.2)=(l.take (i+1)).map Pe:=by
    rw[zai,hL,zay,ho,zai,tq];rfl
   rw[Cj]at Aj ⊢;clear Cj
   generalize L++[(Value.slice Y ((o.row.take k).map mg).length cY,(⟨(o.row.take k).map mg,o.w⟩:aH))]=L2 at Aj Dn |-
   refine Zb2 ?_;refine Vc ((i+1:Nat):Int) ?_;refine Zb1 ?_;exact aj ((R2,cR2),L2,i+1) tR ⟨⟨dO,dO,Dn⟩,Aj⟩ dO
  refine Zb2 ?_
  have aaI:(l.take i).map Pe=uZ l:=by
   unfold uZ
   first
   | rw[zaj (l:=l) (i:=i) oM,zaj (l:=l) (i:=10) oM]
   | rw[show i=10 from oM]
  exact⟨(_,L),rfl,by dsimp only;rw[hL,aaI],S.aQ.turn⟩
 refine Zb3 ?_
 have aaI:(l.take i).map Pe=uZ l:=by
  unfold uZ
  first
  | rw[zaj (l:=l) (i:=i) oM,zaj (l:=l) (i:=10) oM]
  | rw[show i=10 from oM]
 exact⟨(_,L),rfl,by dsimp only;rw[hL,aaI],S.aQ.turn⟩
def jc (l:List bI):List bI:=(l.take 70).map qB
def Er {l:List bI} (hl:aJ w v aM 3 l):aR Tryz.prog 15 [v] w λv' w'=>∃x,v'=x/\True/\Turn noB (aY 97 3 aM x (jc l)) w w':=by
 obtain⟨A,m,rfl,⟨hm,om⟩,hA⟩:=hl;have H:=Sep.aF w;refine cK Tryz.func15 ?_;refine Zb3 ?_;have k:=Sep.iW H 97 3 aM;refine aI (λx:Nat×Value=>[(0,.slice A l.length m),(3,x.2),(4,I x.1)]) (λx w'=>(x.1<=l.length/\x.1<=70)/\Mw.Sep w noB [aY 97 3 aM x.2 ((l.take x.1).map qB)] w') (λx _=>l.length-x.1) (0,.slice none 0 0) tR ⟨⟨zak _,zak _⟩,k⟩ (λx τ _ hI=>?_);obtain⟨i,v1⟩:=x;obtain⟨⟨hi,ash⟩,k⟩:=hI;dsimp only at hi ash k;have Gy:((l.take i).map qB).length=i:=by rw[zaf,zah];omega
 refine Lp ?_;refine Sz (λS=>?_) (λS=>?_)
 .have asi:=S
  refine Cz (λa=>?_) (λa=>?_)
  .have aS:i<l.length:=oM
   obtain⟨x,hx⟩:=get_some aS;have xY:(l.take (i+1)).map qB=(l.take i).map qB++[qB x]:=by rw[zay,hx,zai];rfl
   refine Az (λb5 _ _ _=>?_);refine Tz (λ_ _=>?_);refine Zb5 ?_;refine Vv (Gives.afW rfl rfl (MF x.s 1100)) (Vv (Gives.sw (l:=x.s) (i:=(x.s.take 1100).length) rfl rfl (by rw[zah];omega)) ?_);rw[MG];refine Vf ?_;refine Uz (λ_ b=>?_);refine Zb1 ?_;refine fE b (cs:=aM (qB x)) (h:=?_);refine Bs b ([qB x].flatMap aM) (λbs _ b _=>?_);refine dG b (news:=[qB x]) At1 (by rw[Gy];unfold maxLen;simp;omega) (by rw[Gy];show(i+1)*32<=_;omega) (cells_one (λ_=>rfl) _) (h:=?_);intro v2 b b;rw[<-xY]at b;refine Zb2 ?_;refine Vc ((i+1:Nat):Int) ?_;refine Zb1 ?_;exact aj (i+1,v2) tR ⟨⟨dO,dO⟩,(b.aG).firsts (l:=[_])⟩ dO
  have qU:(l.take i).map qB=jc l:=by unfold jc;rw[show i=70 by have h:=a;omega]
  refine Zb2 ?_;exact⟨_,rfl,trivial,by rw[qU]at k;exact k.turn⟩
 have qU:(l.take i).map qB=jc l:=by unfold jc;rw[zaj (l:=l) (i:=i) (by have h:=S;omega),zaj (l:=l) (i:=70) (by have h:=S;omega)]
 refine Zb3 ?_;exact⟨_,rfl,trivial,by rw[qU]at k;exact k.turn⟩
def pz:List bY:=[⟨1,[],⟨2,false⟩,cell0⟩,⟨2,[],⟨4,true⟩,cell0⟩]
def T9:aR Tryz.prog 26 [] w λu w'=>∃x,u=x/\True/\Turn noB (aY 67 7 aP x pz) w w':=by
 have H:=Sep.aF w;refine aaZ Tryz.func26 ?_;refine Zb1 ?_;refine Vb (aD ⟨2,false⟩) ?_;refine Vv (Gives.build (out:=aP ⟨1,[],⟨2,false⟩,cell0⟩) (Fills.one rfl rfl rfl sM rfl (Fills.many rfl rfl (zbe rfl) rfl Fills.nil))) (Vb (aD ⟨4,true⟩) ?_);refine Vv (Gives.build (out:=aP ⟨2,[],⟨4,true⟩,cell0⟩) (Fills.one rfl rfl rfl sM rfl (Fills.many rfl rfl (zbe rfl) rfl Fills.nil))) (Bs H (pz.flatMap aP) (λbs _ k _=>?_));refine Zb1 ?_;exact⟨_,rfl,trivial,(Sep.nM (n:=2) (s:=7) k At0 rfl dC).turn⟩
def Xo (s:L8):aC:=if s=[]then⟨true,0,[]⟩else⟨false,0,s⟩
def abL (id:Int) (s:L8):List aC:=[⟨false,id,[]⟩,Xo s]
def pG (id wt:Int) (s:L8):aR Tryz.prog 24 [I id,str s,I wt] w λu w'=>∃x:Value,u=agg (aA (x,wt))/\True/\Turn noB (aY 41 3 ah x (abL id s)) w w':=by
 have H:=Sep.aF w;refine zX Tryz.func24 ?_;refine Az (λb6 _ _ _=>?_);refine Zb1 ?_;refine Vb (ah ⟨false,0,s⟩) ?_;refine Az (λb7 _ _ _=>?_);refine Tz (λ_ k=>?_);refine Cz (λS=>?_) (λS=>?_)
 .have hs:s=[]:=S
  have ht:Xo s=⟨true,0,[]⟩:=zac hs;refine Zb0 ?_;refine Vb (ah ⟨true,0,[]⟩) ?_;refine Tz (λ_ a=>?_);refine Zb1 ?_;rw[<-ht]at a;refine Vb (ah ⟨false,id,[]⟩) ?_;refine fE a (cs:=ah (Xo s)) (h:=?_);refine Bs a ((abL id s).flatMap ah) (λbs _ _ _=>?_);refine Mv ?_;refine Vb (aA (.slice (some ⟨bs,0,none⟩) 2 2,wt)) ?_;refine Tz (λ_ a=>?_);refine Zb0 ?_;exact⟨_,fB a,_,rfl,trivial,(Sep.nM (n:=2) (s:=3) a At0 rfl dC).first.turn⟩
 have hs: ¬s=[]:=S;have ht:Xo s=⟨false,0,s⟩:=zab hs;refine Zb1 ?_;rw[<-ht]at k;refine Vb (ah ⟨false,id,[]⟩) ?_;refine fE k (cs:=ah (Xo s)) (h:=?_);refine Bs k ((abL id s).flatMap ah) (λbs _ _ _=>?_);refine Mv ?_;refine Vb (aA (.slice (some ⟨bs,0,none⟩) 2 2,wt)) ?_;refine Tz (λ_ a=>?_);refine Zb0 ?_;exact⟨_,fB a,_,rfl,trivial,(Sep.nM (n:=2) (s:=3) a At0 rfl dC).first.turn⟩
def Ap (o:nO):nO:=⟨o.name.take 40,jc o.steps⟩
def xC (p:aU):aU:=⟨jc p.wh,(p.cols.take 18).map Ap,p.group⟩
/-! A plan that is owned whole:L has each out beside the value of its steps. -/
abbrev Kl:=Value×nO
def BD (L:List Kl):List (L8×Value):=L.map λb=>(b.2.name,b.1)
abbrev agW (L:List Kl):HP:=vJ 97 3 aM (·.1) (λb=>b.2.steps) L
def akK (vw vc:Value) (s:List bI) (L:List Kl):HP:=star (aY 97 3 aM vw s) (star (aY 49 2 dL vc (BD L)) (agW L))
def Q8: ∀{L:List Kl} {F:NP} {w:Wd},(agW L).ok F w->∀b∈L,aJ w b.1 aM 3 b.2.steps
 | [],_,_,_=>λ_ h=>zar h zan
 | b::L,F,w,h=>by
  obtain⟨F1,F2,_,_,h1,h2⟩:=h;intro c hc
  rcases zba.1 hc with rfl | hc
  .exact nL h1
  exact Q8 h2 c hc
def agX {vw vc:Value} {s:List bI} {L:List Kl} (g:Int) (h:(akK vw vc s L).ok F w):gX w (agg [vw,vc,I g]) ⟨s,L.map (·.2),g⟩:=by
 obtain⟨F1,F2,_,_,h1,F3,F4,_,_,h2,h3⟩:=h;refine⟨vw,vc,rfl,nL h1,BD L,nL h2,?_,λi x o hx ho=>?_⟩
 .unfold BD
  rw[zdh,zdh];rfl
 unfold BD at hx;rw[zbz]at hx ho
 obtain⟨b,hb⟩: ∃b,L[i]? =some b:=by
  cases hb:L[i]? with
  | none=>rw[hb]at hx;cases hx
  | some b=>exact⟨b,rfl⟩
 rw[hb]at hx ho;injection hx with hx
 injection ho with ho
 subst hx;subst ho;exact Q8 h3 b (zag hb)
theorem Xp {p:aU} (hp:gX w v p):aR Tryz.prog 7 [v] w λv' w'=>∃x:Value×Value×List Kl,v'=agg [x.1,x.2.1,I p.group]/\x.2.2.map (·.2)=(xC p).cols/\Turn noB (akK x.1 x.2.1 (xC p).wh x.2.2) w w':=by
 obtain⟨vw,vc,rfl,hw,r,hr,eF⟩:=hp;obtain⟨A,m,rfl,⟨hm,om⟩,hA⟩:=hr;obtain⟨W,mw,rfl,_,_⟩:=id hw;have zi:=eF.len;have H:=Sep.aF w;refine oV Tryz.func7 ?_;refine Sr (bB H (cs:=[.slice W p.wh.length mw,.slice A r.length m,I p.group]) rfl (h:=λb1 _ _ _=>?_));refine Az (λb2 _ _ _=>?_);refine Qn (dD (λz:Nat×OA×Nat=>[(1,ay b1),(2,ay b2),(3,ay z.1)]) (λz w'=>Mw.Sep w noB [aY 97 3 aM (.slice z.2.1 (jc p.wh).length z.2.2) (jc p.wh),blk z.1 [.slice z.2.1 (jc p.wh).length z.2.2,.slice none 0 0,I p.group] 26,blk b2 [.slice none 0 0,.slice none 0 0,I 0] 26,blk b1 [.slice W p.wh.length mw,.slice A r.length m,I p.group] 26] w') ?_ ?_)
 .refine Dz (λk _ S=>?_)
  refine Zb2 ?_;refine Gp k 3 rfl rfl (λ_=>(Gives.xL rfl)) (Zb1 ?_);refine j4 k (e1:=2) (e2:=6) kR ?_ ?_
  .refine mO k 2 [(4,false),(3,true)] S (Er (hw.keep S.kept)) (h:=λvx _ _ a _=>?_)
   obtain⟨X,cx,rfl,_,_⟩:=Sep.bJ a At0;refine⟨sL,?_⟩;refine Gb k 5 [.slice X (jc p.wh).length cx,.slice none 0 0,I p.group] ?_;refine tZ k 6 [(5,true),(4,false),(3,true)] a (h:=λb3 _ a=>⟨sL,?_⟩);refine bN k 7 _ a (h:=λ_ a=>⟨sT,?_⟩);refine Zb0 ?_;exact au (b3,X,cx) tR (by first | exact a | exact a.aG)
  refine lM k 6 [(4,false),(3,true),(1,false),(0,true)] S (h:=λb3 _ a=>⟨sL,?_⟩);refine dY k 2 [(4,false),(3,true)] a (Er (hw.keep a.kept)) (h:=λvx _ _ a _=>?_);obtain⟨X,cx,rfl,_,_⟩:=Sep.bJ a At0;refine⟨sL,?_⟩;refine Gb k 5 [.slice X (jc p.wh).length cx,.slice none 0 0,I p.group] ?_;refine bN k 7 _ a (h:=λ_ a=>⟨sT,?_⟩);refine Zb0 ?_;exact au (b3,X,cx) tR (by first | exact a | exact a.aG)
 rintro⟨b3,X,cx⟩ τ a a;dsimp only at a;refine Lp ?_;refine Zb2 ?_;have k:=Sep.ab0 (Sep.iW a 49 2 dL) 97 3 aM (λb:Kl=>b.1) (λb=>b.2.steps);refine aI (λx:Nat×(OA×Nat)×List Kl=>[(1,ay b1),(2,ay b2),(3,ay b3),(4,.slice x.2.1.1 (BD x.2.2).length x.2.1.2),(5,I x.1)]) (λx w'=>(x.1<=r.length/\x.1<=18/\(BD x.2.2).length=x.1/\x.2.2.map (·.2)=(p.cols.take x.1).map Ap)/\Mw.Sep w noB [agW x.2.2,aY 49 2 dL (.slice x.2.1.1 (BD x.2.2).length x.2.1.2) (BD x.2.2),aY 97 3 aM (.slice X (jc p.wh).length cx) (jc p.wh),blk b3 [.slice X (jc p.wh).length cx,.slice none 0 0,I p.group] 26,blk b2 [.slice none 0 0,.slice none 0 0,I 0] 26,blk b1 [.slice W p.wh.length mw,.slice A r.length m,I p.group] 26] w') (λx _=>r.length-x.1) (0,(none,0),[]) tR ⟨⟨zak _,zak _,rfl,rfl⟩,k⟩ (λx τ _ hI=>?_);obtain⟨i,⟨C,cc⟩,q⟩:=x;obtain⟨⟨hi,asj,YC,hqm⟩,k⟩:=hI;dsimp only at hi asj YC hqm k;refine Lp ?_;refine Sz (λa=>?_) (λa=>?_)
 .have asi:=a
  refine Cz (λS=>?_) (λS=>?_)
  .have aS:i<p.cols.length:=oM
   obtain⟨vx,hx,Ci⟩:=eF.at aS;have rH:p.cols[i]? =some p.cols[i]:=zaa aS;obtain⟨o,ho⟩: ∃o,o=p.cols[i]:=⟨_,rfl⟩;rw[<-ho]at hx Ci rH;have xY:(p.cols.take (i+1)).map Ap=(p.cols.take i).map Ap++[Ap o]:=by rw[zay,rH,zcw,zai];rfl
   refine Dz (λc _ d=>?_);refine aqj ?_;refine Gp c 14 rfl rfl (λ_=>(Gives.afW rfl rfl (MF o.name 40))) (Gp c 15 rfl rfl (λ_=>(Gives.sw (l:=o.name) (i:=(o.name.take 40).length) rfl rfl (by rw[zah];omega))) ?_);refine Zb6 ?_;refine dY c 22 [(15,true),(14,true),(13,true),(12,false),(11,true),(10,true),(9,true),(8,false),(7,true),(6,false),(5,true),(4,true),(3,true),(2,false),(1,true),(0,true)] d (Er (Ci.keep d.kept)) (h:=λvy _ _ d _=>?_);obtain⟨Y,cy,rfl,_,_⟩:=Sep.bJ d At0;refine⟨av (av (av ((bK rfl kR (Gives.dz (f:=0) rfl d hA hx rfl) rfl (av (av (av (iI d (h:=av ((bK rfl kR (Gives.dz (f:=0) rfl d hA hx rfl) rfl (av (av (av (iI d (h:=av (av (eu)))))))))))))))))),?_⟩;refine Gb c 23 (dL (o.name.take (o.name.take 40).length,.slice Y (jc o.steps).length cy)) ?_;refine Gz c 24 _ d ([(o.name.take (o.name.take 40).length,Value.slice Y (jc o.steps).length cy)].flatMap dL) (h:=λbs _ d=>⟨sT,?_⟩);rw[MG]at d;refine gF c 25 _ d (news:=[(o.name.take 40,Value.slice Y (jc o.steps).length cy)]) At2 (by unfold maxLen;simp;omega) (by simp;omega) (λu hu=>zaz.1 (show([(o.name.take 40,Value.slice Y (jc o.steps).length cy)].flatMap dL).all Value.oneCell'=true from rfl) u hu) (h:=λv2 _ d=>?_);rw[show BD q++[(o.name.take 40,Value.slice Y (jc o.steps).length cy)]=BD (q++[(Value.slice Y (jc o.steps).length cy,Ap o)]) by unfold BD;rw[zai];rfl]at d;obtain⟨C2,c2,rfl,_,_⟩:=Sep.bJ d At2
   refine⟨sT,?_⟩;refine sH c 26 _ (h:=⟨sT,?_⟩);refine Zb3 ?_;exact aj (i+1,(C2,c2),q++[(Value.slice Y (jc o.steps).length cy,Ap o)]) ⟨rfl,rfl,rfl,rfl,by dsimp only;unfold BD;rw[zai];rfl,trivial⟩ ⟨⟨dO,dO,by dsimp only;unfold BD at YC ⊢;rw[zaf]at YC ⊢;rw[zad,YC];rfl,by dsimp only;rw[zai,hqm,xY];rfl⟩,Sep.XZ (x:=(Value.slice Y (jc o.steps).length cy,Ap o)) d⟩ dO
  have qU:(p.cols.take i).map Ap=(xC p).cols:=by rw[show i=18 by have h:=S;omega];rfl
  refine Zb2 ?_;refine rY (v:=.slice C (BD q).length cc) k (hy:=rfl) (h:=λ_ _=>?_);refine Tz (λ_ d=>?_);refine Zb0 ?_;rw[qU]at hqm;exact⟨_,fB d,(.slice X (jc p.wh).length cx,.slice C (BD q).length cc,q),rfl,hqm,d.aG.aQ.aG.aQ.first.turn⟩
 have qU:(p.cols.take i).map Ap=(xC p).cols:=by
  show _=(p.cols.take 18).map Ap
  rw[zaj (l:=p.cols) (i:=i) (by have h:=a;omega),zaj (l:=p.cols) (i:=18) (by have h:=a;omega)]
 refine Zb3 ?_;refine rY (v:=.slice C (BD q).length cc) k (hy:=rfl) (h:=λ_ _=>?_);refine Tz (λ_ d=>?_);refine Zb0 ?_;rw[qU]at hqm;exact⟨_,fB d,(.slice X (jc p.wh).length cx,.slice C (BD q).length cc,q),rfl,hqm,d.aG.aQ.aG.aQ.first.turn⟩
def Nt {p:aU} (hp:gX w v p):aR Tryz.prog 7 [v] w λv' w'=>∃x,v'=x/\True/\Turn noB (Qo x (xC p)) w w':=
 aR.mono (Xp hp) λu w' h=>by
  obtain⟨⟨vw,vc,L⟩,rfl,hL,hk,F1,hq,hs⟩:=h;refine⟨_,rfl,trivial,hk,F1,HP.look hq λF w h=>?_,hs⟩;have:=agX p.group h
  rwa [show(⟨(xC p).wh,L.map (·.2),p.group⟩:aU)=xC p by dsimp only at hL;rw[hL];rfl]at this
end Go.Proofs.Mw
