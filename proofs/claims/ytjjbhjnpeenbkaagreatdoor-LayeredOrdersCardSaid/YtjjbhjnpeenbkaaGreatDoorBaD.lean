/- Barycenters: one layer ordered, by the program. -/
import Derived.Test.YtjjbhjnpeenbkaaGreatDoorBaS1
set_option linter.unusedSimpArgs false
set_option linter.unusedVariables false
set_option maxHeartbeats 16000000
namespace Go.Proofs.YtjjbhjnpeenbkaaGreatDoor
open Go Go.PS Go.Proofs
open Go.Stb
set_option maxRecDepth 100000
attribute [local irreducible] ao wpG ah ax
theorem He {g:Nat->Int}{n j:Nat}{x:Int}:(bp g n).set j x=bp (λ u=>if u=j then x else g u) n:=by
 refine yX λ v=>?_
 rw[qF,iG];by_cases c:v<n
 ·rw[lZ c,lZ c];by_cases Z:j=v
  ·subst Z;rw[if_pos rfl,if_pos c,if_pos rfl]
  ·rw[if_neg Z,if_neg (λ h=>Z h.symm)]
 ·rw[uL (by rw[iG];omega),uL (by rw[iG];omega)];by_cases Z:j=v
  ·rw[if_pos Z,if_neg xA]
  ·rw[if_neg Z]
theorem Pp {z:List Int}(S:z.Nodup){k:Nat}{v:Int}(h:z[k]? =some v)(u:Int):placeF (z.take (k+1)) u=if u=v then(k:Int)else placeF (z.take k) u:=by
 have Y:(z.take (k+1)).Nodup:=S.sublist (List.take_sublist _ _);have T:(z.take k).Nodup:=S.sublist (List.take_sublist _ _);by_cases c:u=v
 ·subst c;rw[if_pos rfl];exact nH Y (by rw[qS,if_pos xA];exact h)
 ·rw[if_neg c];by_cases V:u∈z.take k
  ·obtain⟨j,X⟩:=qA V;rw[nH T X];have U:j<k:=by have:=(uB.1 X).1;rw[yA]at this;omega
   refine nH Y ?_;rw[qS,if_pos U]at X;rw[qS,if_pos xA];exact X
  ·rw[oP V,oP];rw[aM h];intro Z;rcases yP.1 Z with Z|Z
   ·exact V Z
   ·exact c (uX.1 Z)
def lU (y z:List Int)(Z:List Arc)(q:Nat):List Int:=bp (λ k=>if dL y z Z k=true/\(bR y z Z k).length<q then at0 y (((ig y z Z)[(bR y z Z k).length]?).getD 0:Nat)else at0 y k) y.length
theorem OM (y z:List Int)(Z:List Arc)(q:Nat):(lU y z Z q).length=y.length:=iG _ _
theorem OP (y z:List Int)(Z:List Arc):lU y z Z 0=y:=by
 have:lU y z Z 0=bp (λ k:Nat=>at0 y k) y.length:=lY λ k _=>if_neg xA
 rw[this];refine yX λ k=>?_
 by_cases c:k<y.length
 ·rw[lZ c,aK c]
 ·rw[uL (by rw[iG];omega),uL xA]
theorem OL (y z:List Int)(Z:List Arc):lU y z Z (bR y z Z y.length).length=hU y z Z:=by
 refine yK λ k h=>?_
 rw[yD]at h;rcases c:dL y z Z k with _|_
 ·simp
 ·have:=(uB.1 (pH h c)).1;simp[this]
theorem OO {y z:List Int}{Z:List Arc}{q j t:Nat}(U:(bR y z Z y.length)[q]? =some j)(Q:(ig y z Z)[q]? =some t):(lU y z Z q).set j (at0 y t)=lU y z Z (q+1):=by
 have X:=wA (uA U);have T:=pH X.1 X.2;have R:(bR y z Z j).length=q:=by
  exact(FQ ((rv y z Z y.length).imp λ h=>Dq h) U T).symm
 rw[lU,He];refine lY λ k S=>?_
 by_cases c:k=j
 ·subst c;rw[if_pos rfl,if_pos ⟨X.2,xA⟩,R,Q];rfl
 ·rw[if_neg c];by_cases Y:dL y z Z k=true
  ·have:(bR y z Z k).length≠q:=λ e=>c (Ep S X.1 Y X.2 xA)
   by_cases V:(bR y z Z k).length<q
   ·rw[if_pos ⟨Y,V⟩,if_pos ⟨Y,xA⟩]
   ·rw[if_neg (λ h=>V h.2),if_neg (λ h=>by have:=h.2;omega)]
  ·rw[if_neg (λ h=>Y h.1),if_neg (λ h=>Y h.1)]
theorem wz (y z:List Int)(Z:List Arc):∀n,(bR y z Z n).length<=n
 |0=>by simp[bR]
 |n+1=>by
  have:=wz y z Z n;rw[pI];split
  ·rw[uH,yO];omega
  ·omega
theorem F7 (a:Lv)(i f:Nat)(hw:wide a)(H:aH a=true)(har:a.2.2.1.length<=700)(hi:i<a.2.1.length)(hf:f<a.2.1.length):
  ah Tryz.prog 215 [lvD a, .int i, .int f] (lvD (kg a i f)):=by
 obtain⟨y,G⟩:=ak hi;obtain⟨z,hz⟩:=ak hf;have hyn:=nk H G;have hzn:=nk H hz;obtain⟨t1,t2⟩:=cF H;have hyl:=cV (uA G);have hyw:=hw y (uA G);have hzl:=cV (uA hz);have hzr:∀(k:Nat) v,z[k]? =some v->0<=v/\v<tot a.2.1:=λ k v hk=>zx H (zX.2 ⟨z,uA hz,uA hk⟩)
 have M:∀v,ah Tryz.prog 243 [lvD a, .int v,aj (bp (λ u:Nat=>placeF z u) (tot a.2.1))] (aj (bM z a.2.2.1 v)):=λ v=>
  Kn a v z _ xA (λ u h0 s=>by
   rw[iG]at s;rw[lZ xA,show((u.toNat:Nat):Int)=u by omega]) (λ x hx=>by
   rw[iG];exact BS H hx)
 have L:=AP a i (hU y z a.2.2.1) hw (by rw[F4];omega);rw[uh H G (xJ hyn z a.2.2.1)]at L;have Q:kg a i f=dG a i (hU y z a.2.2.1):=by rw[kg,cT G,cT hz]
 rw[<-Q]at L;have hcl:=KT y xA;have b:=wz y z a.2.2.1;have hbk:(bR y z a.2.2.1 y.length).Pairwise (oc (λ j k:Nat=>cC (bM z a.2.2.1 (at0 y j)) (bM z a.2.2.1 (at0 y k))) (mB λ k:Nat=>bM z a.2.2.1 (at0 y k))):=by
  refine List.Pairwise.imp ?_ (rv y z a.2.2.1 y.length);intro j k h;exact OR (p:=λ k:Nat=>bM z a.2.2.1 (at0 y k)) h
 have hso:=Jt (λ k:Nat=>at0 y k) (λ k:Nat=>(bM z a.2.2.1 (at0 y k)).map D.int) 245 (λ j k:Nat=>cC (bM z a.2.2.1 (at0 y j)) (bM z a.2.2.1 (at0 y k))) (mB λ k:Nat=>bM z a.2.2.1 (at0 y k)) (F5 _)
  (λ j k=>Kl _ _ _ _) (bR y z a.2.2.1 y.length) (ig y z a.2.2.1) hbk ((rv y z a.2.2.1 y.length).imp λ h=>Dq h)
  (ur y z a.2.2.1) (SH (rv y z a.2.2.1 y.length)) (by have:=b y.length;omega)
 have hSl:=HY y z a.2.2.1;have hO0:=OP y z a.2.2.1;have hOf:=OL y z a.2.2.1;have hOl:=OM y z a.2.2.1;have hOs:∀q j t:Nat,(bR y z a.2.2.1 y.length)[q]? =some j->(ig y z a.2.2.1)[q]? =some t->(lU y z a.2.2.1 q).set j (at0 y t)=lU y z a.2.2.1 (q+1):=λ q j t=>OO
 have hFs:=pI y z a.2.2.1;have hF0:bR y z a.2.2.1 0=[]:=rfl;have hFm:∀q j:Nat,(bR y z a.2.2.1 y.length)[q]? =some j->j<y.length:=λ q j h=>(wA (uA h)).1
 have hH:∀k:Nat,dL y z a.2.2.1 k=decide (0<(bM z a.2.2.1 (at0 y k)).length):=λ k=>by
  rw[dL];cases bM z a.2.2.1 (at0 y k)<;>simp
 obtain⟨C,hC⟩:∃C,C=tot a.2.1:=⟨_,rfl⟩;rw[<-hC]at M hzr t2;clear Q hbk;generalize kg a i f=PP at*;generalize hPQ:(λ k:Nat=>bM z a.2.2.1 (at0 y k))=O at*;have U:∀k:Nat,bM z a.2.2.1 (at0 y k)=O k:=λ k=>by rw[<-hPQ]
 have hplk:∀k:Nat,ah Tryz.prog 243 [lvD a, .int (at0 y k),aj (bp (λ u:Nat=>placeF z u) C)] (aj (O k)):=λ k=>by rw[<-U];exact M _
 simp only[U]at hso hH;clear M hPQ U;generalize bR y z a.2.2.1=F at*;generalize ig y z a.2.2.1=T at*;generalize lU y z a.2.2.1=ON at*;generalize hU y z a.2.2.1=OBv at*;simp only[hH]at hFs;clear hH;obtain⟨n',ls',ar',cs'⟩:=PP;obtain⟨n,V,E,A⟩:=a;dsimp only at*;have htk:=ql V;refine kE Tryz.func215 ?_;intro hat B X w0;refine ac kO aa aa ?_;refine aq (λ(k:Nat)=>k<=V.length) (λ k=>[(1, .int i),(2, .int f),(3, .ptr 3 0 0 0),(6, .ptr 6 0 0 0),(7, .int (tot (V.take k))),(25, .d (am V)),(26, .int V.length),(27, .int k)]) (λ k=>[(3, .cells [.int n, .d (am V), .d (aw E), .d (am A)]),(6, .cells [.int 0, .nilS, .nilS, .nilS])]) (λ k=>V.length-k) 0 ?_ ?_ ?_
 ·exact uF _
 ·exact kN (ai @yQ.{0} @tot.eq_1) []
 ·intro k hk;have hle:=htk k;rcases uD k V.length with Z|S
  ·obtain⟨x,hx⟩:=ak Z;have I:=sC hx;have hle2:=htk (k+1);refine ac kO (ae hx) aa ?_;refine⟨k+1,?_,kN (ai I @qQ) [],?_⟩
   ·omega
   ·omega
  ·have:k=V.length:=xA;subst this
   try dsimp only
   rw[yE,<-hC];have hz0:List.replicate C (D.int 0)=(dY (λ _=>0) (λ _=>-1) C 0).map D.int:=by rw[xg,yn]
   refine ac kO aa aa ?_;refine aq (λ(k:Nat)=>k<=C) (λ k=>[(1, .int i),(2, .int f),(3, .ptr 3 0 0 0),(6, .ptr 6 0 0 0),(10, .ref 37 1 0 C C),(39, .int C),(40, .int k)]) (λ k=>[(3, .cells [.int n, .d (am V), .d (aw E), .d (am A)]),(6, .cells [.int 0, .nilS, .nilS, .nilS]),(37, .row 1 ((dY (λ _=>0) (λ _=>-1) C k).map D.int))]) (λ k=>C-k) 0 ?_ ?_ ?_
   ·exact uF _
   ·exact kN (ae hz0) []
   ·intro k hk;have N:=pQ (λ _=>0) (λ _=>-1) C k;rcases uD k C with Z|S
    ·have hg:(dY (λ _=>0) (λ _=>-1) C k)[k]? =some 0:=xe Z;have Y:((dY (λ _=>0) (λ _=>-1) C k).map D.int).set k (D.int (-1))=(dY (λ _=>0) (λ _=>-1) C (k+1)).map D.int:=by rw[<-xf Z,yW]
     refine ac kO (av hg N Y) aa ?_;refine⟨k+1,?_,kN (ae Y) [],?_⟩
     ·omega
     ·omega
    ·have:k=C:=xA;subst this;have hz1:dY (λ _=>0) (λ _=>-1) k k=bp (λ u:Nat=>placeF (z.take 0) u) k:=by rw[xd];exact lY λ v _=>rfl
     try dsimp only
     rw[hz1];refine ac kO (ae hz) aa ?_;refine aq (λ(j:Nat)=>j<=z.length) (λ j=>[(1, .int i),(3, .ptr 3 0 0 0),(6, .ptr 6 0 0 0),(10, .ref 37 1 0 k k),(51, .d (aj z)),(52, .int z.length),(53, .int j)]) (λ j=>[(3, .cells [.int n, .d (am V), .d (aw E), .d (am A)]),(6, .cells [.int 0, .nilS, .nilS, .nilS]),(37, .row 1 ((bp (λ u:Nat=>placeF (z.take j) u) k).map D.int))]) (λ j=>z.length-j) 0 ?_ ?_ ?_
     ·exact uF _
     ·exact kN aa []
     ·intro j hj;have N:=iG (λ u:Nat=>placeF (z.take j) u) k;rcases uD j z.length with Z|S
      ·obtain⟨v,J⟩:=ak Z;obtain⟨v1,v2⟩:=hzr j v J;obtain⟨v,rfl⟩:∃m:Nat,v=m:=⟨v.toNat,xA⟩;have hg:(bp (λ u:Nat=>placeF (z.take j) u) k)[v]? =some (placeF (z.take j) v):=lZ xA;have K:(bp (λ u:Nat=>placeF (z.take j) u) k).set v (j:Int)=bp (λ u:Nat=>placeF (z.take (j+1)) u) k:=by
        rw[He];refine lY λ u hu=>?_
        rw[Pp hzn J];by_cases c:u=v
        ·subst c;rw[if_pos rfl,if_pos rfl]
        ·rw[if_neg c,if_neg xA]
       have Y:((bp (λ u:Nat=>placeF (z.take j) u) k).map D.int).set v (D.int j)=(bp (λ u:Nat=>placeF (z.take (j+1)) u) k).map D.int:=by rw[<-K,yW]
       refine ac kO (aE J hg N Y) aa ?_;refine⟨j+1,?_,kN (ae Y) [],?_⟩
       ·omega
       ·omega
      ·have:j=z.length:=xA;subst this
       try dsimp only
       rw[yE];refine aC _ (fo 37 1 ((bp (λ u:Nat=>placeF z u) k).map D.int) rfl (fa _ rfl) xC) ?_;have htl:((bp (λ u:Nat=>placeF z u) k).map D.int).take k=(bp (λ u:Nat=>placeF z u) k).map D.int:=uE (by rw[uC,iG];exact uI _);have hPl:=iG (λ u:Nat=>placeF z u) k;refine ac kO (aE G htl hPl @qD.{0}) (ae (dM [(2000,903)] hcl)) ?_;refine aC _ (dg 15 901 1 rfl rfl) ?_;refine aC _ (dg 16 902 2 rfl rfl) ?_;refine aq (λ(q:Nat)=>q<=y.length) (λ q=>[(1, .int i),(3, .ptr 3 0 0 0),(6, .ptr 6 0 0 0),(10, .d (aj (bp (λ u:Nat=>placeF z u) k))),(14, .ref 903 1 0 y.length y.length),(15, .ref 901 1 0 (F q).length (F q).length),(16, .ref 902 2 0 (F q).length (F q).length),(69, .ref 903 1 0 y.length y.length),(70, .int y.length),(71, .int q)]) (λ q=>[(3, .cells [.int n, .d (am V), .d (aw E), .d (am A)]),(6, .cells [.int 0, .nilS, .nilS, .nilS]),(901, .row 1 ((F q).map aG)),(902, .row 2 ((F q).map (elD (λ k:Nat=>at0 y k) λ k=>(O k).map D.int))),(903, .row 1 (y.map D.int))]) (λ q=>y.length-q) 0 ?_ ?_ ?_
       ·exact uF _
       ·exact kN (bq hF0 @uY.{0,0} @uU.{0} htl hPl @uI) []
       ·intro q hq;have hql:=b q;rcases uD q y.length with Z|S
        ·have gq:=aK (r:=y) (i:=q) Z;have hp:=hplk q;have I:=hFs q;have s:((F q).map aG).take (F q).length=(F q).map aG:=aA _ _;have h2:((F q).map (elD (λ k:Nat=>at0 y k) λ k=>(O k).map D.int)).take (F q).length=(F q).map (elD (λ k:Nat=>at0 y k) λ k=>(O k).map D.int):=aA _ _;by_cases c:0<(O q).length
         ·rw[uZ c,if_pos rfl]at I
          repeat' first|refine bt rfl ?_|refine aV ?_|refine wR ?_|(refine rc (hp) rfl ?_ ?_;(· first|rfl|simp(disch:=omega) only[go_sem,simprocAttr,gq,c,s,h2,roomy]))|(refine bB rfl rfl (λ hc=>?_) (λ hc=>?_)<;>try simp only[hcL]at hc)|(refine bA _ rfl rfl (λ hc=>?_) (λ hc=>?_)<;>(try simp only[hcL]at hc)<;>try omega)|simp(disch:=omega) only[go_sem,simprocAttr,gq,c,s,h2,roomy]|(first|exact fb _|exact λ d hd=>by rw[uX.1 hd];rfl)|apply And.intro|omega|decide+kernel
          refine⟨q+1,?_,kN (bj I s h2 @uO.{0,0} @uS.{0,0} @uY.{0,0} @uH.{0} (av @uV.{0} @uU.{0} @yU)) [(901,86),(902,92)],?_⟩
          ·omega
          ·omega
         ·rw[uW c,if_neg xC]at I;refine ac kO (ai gq c) (ae hp) ?_;refine⟨q+1,?_,kN (ae I) [],?_⟩
          ·omega
          ·omega
        ·have:q=y.length:=xA;subst this;refine ac kO aa (ae (dM [(1000,902)] hso)) ?_;refine aq (λ(q:Nat)=>q<=(F y.length).length) (λ q=>[(1, .int i),(3, .ptr 3 0 0 0),(6, .ptr 6 0 0 0),(14, .ref 903 1 0 y.length y.length),(15, .ref 901 1 0 (F y.length).length (F y.length).length),(96, .ref 902 2 0 (F y.length).length (F y.length).length),(97, .int (F y.length).length),(98, .int q)]) (λ q=>[(3, .cells [.int n, .d (am V), .d (aw E), .d (am A)]),(6, .cells [.int 0, .nilS, .nilS, .nilS]),(901, .row 1 ((F y.length).map aG)),(902, .row 2 (T.map (elD (λ k:Nat=>at0 y k) λ k=>(O k).map D.int))),(903, .row 1 ((ON q).map D.int))]) (λ q=>(F y.length).length-q) 0 ?_ ?_ ?_
         ·exact uF _
         ·exact kN (ae hO0) []
         ·intro q hq;have R:=hOl q;rcases uD q (F y.length).length with Z|S
          ·obtain⟨j,hj⟩:=ak Z;obtain⟨t,ht⟩:=ak (l:=T) (k:=q) xA;have hjy:=hFm q j hj;have K:=hOs q j t hj ht;obtain⟨w,hw1⟩:=ak (l:=ON q) (k:=j) xA;have Y:((ON q).map D.int).set j (D.int (at0 y t))=(ON (q+1)).map D.int:=by rw[<-K,yW]
           refine ac kO (bq hj ht hw1 R hSl Y) aa ?_;refine⟨q+1,?_,kN (ae Y) [],?_⟩
           ·omega
           ·omega
          ·have:q=(F y.length).length:=xA;subst this
           try dsimp only
           rw[hOf]at R|-;refine aC _ (fo 903 1 (OBv.map D.int) rfl (fa _ rfl) xC) ?_;have htl2:(OBv.map D.int).take y.length=OBv.map D.int:=by rw[<-R];exact aA _ _
           refine ac kO (av htl2 R @qD.{0}) (ae L) ?_;refine⟨_,_,_,_,rfl,?_⟩;simp(disch:=omega) only[go_sem,simprocAttr,toD]
def pv (y z:List Int)(Z:List Arc)(k:Nat):Int:=if dL y z Z k then at0 y (((ig y z Z)[(bR y z Z k).length]?).getD 0:Nat)else at0 y k
theorem OK (y z:List Int)(Z:List Arc):hU y z Z=bp (pv y z Z) y.length:=rfl
theorem xE (f:Nat->Int)(l:List Nat):∀d,d∈l.map (λ t=>D.int (f t))->d.cells.length=1:=oo _ 1 (λ _=>rfl) l
theorem QZ (a:Lv)(i f:Nat)(hv:aH a=true)(har:a.2.2.1.length<=700)(y z:List Int)(T:a.2.1[i]? =some y)(hz:a.2.1[f]? =some z):
  ah Tryz.prog 253 [lvD a, .int i, .int f] (aj (hU y z a.2.2.1)):=by
 have hyn:=nk hv T;have hzn:=nk hv hz;obtain⟨t1,t2⟩:=cF hv;have hyl:=cV (uA T);have hzl:=cV (uA hz);have hil:=(uB.1 T).1;have hfl:=(uB.1 hz).1;have A:∀x,x∈a.2.2.1->x.1≠x.2:=λ x b=>(BS hv b).1
 have hnr:∀v,ah Tryz.prog 276 [lvD a, .int v, .int f] (aj (lm z a.2.2.1 v)):=λ v=>QW a v f z hz xA xA xA
 have hcm:∀u v,cC (lm z a.2.2.1 u) (lm z a.2.2.1 v)=cC (bM z a.2.2.1 u) (bM z a.2.2.1 v):=λ u v=>KX (xn hzn A u) (xn hzn A v)
 have hco:∀u v,ah Tryz.prog 277 [aj (lm z a.2.2.1 u),aj (lm z a.2.2.1 v)] (.int (cC (bM z a.2.2.1 u) (bM z a.2.2.1 v))):=λ u v=>by rw[<-hcm];exact PZ _ _
 have hem:∀k:Nat,(lm z a.2.2.1 (at0 y k)).length=0↔dL y z a.2.2.1 k=false:=λ k=>by
  have h1:=(xn hzn A (at0 y k)).length_eq;rw[dL];cases hp:bM z a.2.2.1 (at0 y k)with
  |nil=>rw[hp]at h1;simp at h1;simp[h1]
  |cons u l=>rw[hp,uV]at h1;simp;intro h;rw[h]at h1;simp at h1
 have hTs:∀k,jw (λ k=>bM z a.2.2.1 (at0 y k)) (bR y z a.2.2.1 (k+1))=if dL y z a.2.2.1 k then mw (λ k=>bM z a.2.2.1 (at0 y k)) (jw (λ k=>bM z a.2.2.1 (at0 y k)) (bR y z a.2.2.1 k)) k else jw (λ k=>bM z a.2.2.1 (at0 y k)) (bR y z a.2.2.1 k):=λ k=>by
  rw[pI];split
  ·rw[SG]
  ·rfl
 have hTN:jw (λ k=>bM z a.2.2.1 (at0 y k)) (bR y z a.2.2.1 y.length)=ig y z a.2.2.1:=rfl;have hTl:∀k,(jw (λ k=>bM z a.2.2.1 (at0 y k)) (bR y z a.2.2.1 k)).length<=k:=λ k=>by
  have:=(HZ (λ k=>bM z a.2.2.1 (at0 y k)) (bR y z a.2.2.1 k)).length_eq;have:=wz y z a.2.2.1 k;omega
 have hT0:jw (λ k=>bM z a.2.2.1 (at0 y k)) (bR y z a.2.2.1 0)=[]:=rfl;have hFs:=pI y z a.2.2.1;have hF0:bR y z a.2.2.1 0=[]:=rfl;have hsb:∀k,k<y.length->dL y z a.2.2.1 k=true->∃t,(ig y z a.2.2.1)[(bR y z a.2.2.1 k).length]? =some t/\pv y z a.2.2.1 k=at0 y t:=λ k hk h=>by
  obtain⟨t,N,_⟩:=qe hk h;refine⟨t,N,?_⟩;rw[pv,if_pos h,N];rfl
 have hcb:∀k,dL y z a.2.2.1 k=false->pv y z a.2.2.1 k=at0 y k:=λ k h=>by rw[pv,if_neg (by rw[h];decide)]
 rw[OK];generalize hPP:(λ k:Nat=>bM z a.2.2.1 (at0 y k))=G at*;have hPe:∀k:Nat,bM z a.2.2.1 (at0 y k)=G k:=λ k=>by rw[<-hPP]
 have hco2:∀j k:Nat,ah Tryz.prog 277 [aj (lm z a.2.2.1 (at0 y j)),aj (lm z a.2.2.1 (at0 y k))] (.int (cC (G j) (G k))):=λ j k=>by rw[<-hPe,<-hPe];exact hco _ _
 clear hco hcm hPe hPP A;generalize lm z a.2.2.1=NR at*;generalize bR y z a.2.2.1=F at*;generalize hSB:ig y z a.2.2.1=R at*;generalize dL y z a.2.2.1=H at*;generalize pv y z a.2.2.1=CB at*;obtain⟨TT,hTT⟩:∃TT:Nat->List Nat,∀k,jw G (F k)=TT k:=⟨_,λ _=>rfl⟩;simp only[hTT]at*;obtain⟨n,ls,ar,cs⟩:=a;dsimp only at*;refine kE Tryz.func253 ?_;intro hat B X w0;refine ac kO aa aa ?_;refine aC _ (dg 7 901 1 rfl rfl) ?_;refine aq (λ(k:Nat)=>k<=y.length) (λ k=>[(1, .int i),(2, .int f),(3, .ptr 3 0 0 0),(7, .ref 901 1 0 (TT k).length (TT k).length),(8, .int k)]) (λ k=>[(3, .cells [.int n, .d (am ls), .d (aw ar), .d (am cs)]),(901, .row 1 ((TT k).map λ t:Nat=>D.int (at0 y t)))]) (λ k=>y.length-k) 0 ?_ ?_ ?_
 ·exact uF _
 ·exact kN (av hT0 @uY.{0,0} @uU.{0}) []
 ·intro k hk;have hlk:=hTl k;rcases uD k y.length with s|hge
  ·have M:=aK (r:=y) (i:=k) s;have E:=hTs k;have n1:=hnr (at0 y k);have em:=hem k;rcases K:H k with _|_
   ·rw[K,if_neg xC]at E;have em0:=em.2 K;have V:((NR (at0 y k)).length:Int)=0:=xA;refine ac kO (av T M V) (ae n1) ?_;refine⟨k+1,?_,kN (ae E) [],?_⟩
    ·omega
    ·omega
   ·rw[K,if_pos rfl,mw]at E;have V:¬((NR (at0 y k)).length:Int)=0:=λ h=>by
     have:=em.1 xA;rw[K]at this;cases this
    generalize hTk:TT k=S at*;refine ac kO (av T M V) (ae n1) ?_;refine aq (λ(q:Nat)=>q<=S.length/\fk G S k q=fk G S k S.length) (λ q=>[(1, .int i),(2, .int f),(3, .ptr 3 0 0 0),(7, .ref 901 1 0 S.length S.length),(8, .int k),(9, .int (at0 y k)),(10, .int q)]) (λ q=>[(3, .cells [.int n, .d (am ls), .d (aw ar), .d (am cs)]),(901, .row 1 (S.map λ t:Nat=>D.int (at0 y t)))]) (λ q=>q) S.length ?_ ?_ ?_
    ·exact⟨uI _,rfl⟩
    ·exact kN aa []
    ·rintro q ⟨hq,Y⟩;have J:∀d,d<=S.length->d=fk G S k S.length->TT (k+1)=S.take d++k::S.drop d:=λ d _ O=>by rw[E,O]
     have L:∀d,(S.take d++k::S.drop d).length=S.length+1:=λ d=>by
      simp only[uH,uV,yA,jR];omega
     rcases qO q with h0|h0
     ·subst h0;have O:=J 0 (uF _) (by rw[<-Y];rfl);have C:=L 0;rw[yQ,qD,gB]at O C;have en:((0:Nat):Int).toNat=0:=rfl;have htO:(S.map λ t:Nat=>D.int (at0 y t)).take S.length=S.map λ t:Nat=>D.int (at0 y t):=aA _ _
      repeat' first|refine bt rfl ?_|refine aV ?_|refine wR ?_|(refine bB rfl rfl (λ U=>?_) (λ U=>?_)<;>try simp only[hcL]at U)|(refine bA _ rfl rfl (λ U=>?_) (λ U=>?_)<;>(try simp only[hcL]at U)<;>try omega)|simp(disch:=omega) only[go_sem,simprocAttr,en,roomy,qD,yQ,gB,kC,htO,uH,uV,uU,yU,uF]|(first|exact fb _|exact xE _ _|exact λ d O=>by cases O)|apply And.intro|omega|decide+kernel
      refine⟨k+1,?_,kN (bV O C @uS.{0,0} @gB.{0} @gK.{0} (Nat.add_comm 1 S.length) @yU) [(901,74)],?_⟩
      ·omega
      ·omega
     ·obtain⟨q,rfl⟩:∃m,q=m+1:=⟨q-1,xA⟩;obtain⟨t,N⟩:=ak (l:=S) (k:=q) xA;have n2:=hnr (at0 y t);have c1:=hco2 t k;have ek:(((q+1:Nat):Int)-1).toNat=q:=xA;have ek2:((q+1:Nat):Int)-1=(q:Int):=xA;rw[fk,N,yN]at Y;by_cases b:0<cC (G t) (G k)
      ·rw[if_pos b]at Y;refine ac kO (bq ek ek2 N b T M) (av n1 n2 c1) ?_;refine⟨q,?_,kN (ae ek2) [],?_⟩
       ·exact⟨xA,Y⟩
       ·omega
      ·rw[if_neg b]at Y;have O:=J (q+1) hq Y;have C:=L (q+1);have en:(((q+1:Nat):Int)).toNat=q+1:=xA;have m1:(S.map λ t:Nat=>D.int (at0 y t)).take (q+1)=(S.take (q+1)).map λ t:Nat=>D.int (at0 y t):=by rw[Ai]
       have m2:(S.map λ t:Nat=>D.int (at0 y t)).drop (q+1)=(S.drop (q+1)).map λ t:Nat=>D.int (at0 y t):=by rw[List.map_drop]
       have l1:(S.take (q+1)).length=q+1:=by rw[yA];omega
       have l2:(S.drop (q+1)).length=S.length-(q+1):=jR;have m3:((S.drop (q+1)).map λ t:Nat=>D.int (at0 y t)).take (S.length-(q+1))=(S.drop (q+1)).map λ t:Nat=>D.int (at0 y t):=uE (by rw[uC,l2];exact uI _)
       have m4:((S.take (q+1)).map λ t:Nat=>D.int (at0 y t)).take (q+1)=(S.take (q+1)).map λ t:Nat=>D.int (at0 y t):=uE (by rw[uC,l1];exact uI _)
       have l3:q+1+1+(S.length-(q+1))=S.length+1:=xA;have l4:q+1+(S.length-(q+1))=S.length:=xA;have l5:q+1<=S.length:=hq;have m5:(((S.take (q+1)).map λ t:Nat=>D.int (at0 y t))++[D.int (at0 y k)]).take (q+1+1)=((S.take (q+1)).map λ t:Nat=>D.int (at0 y t))++[D.int (at0 y k)]:=uE (by rw[uH,uC,l1];exact uI _)
       repeat' first|refine bt rfl ?_|refine aV ?_|refine wR ?_|(refine rc (n1) rfl ?_ ?_;(· first|rfl|simp(disch:=omega) only[go_sem,simprocAttr,ek,en,N,b,T,M,roomy,qD,kC,m1,m2,m3,m4,m5,l1,l2,l3,l4,l5,uH,uV,uU,yU]))|(refine rc (n2) rfl ?_ ?_;(· first|rfl|simp(disch:=omega) only[go_sem,simprocAttr,ek,en,N,b,T,M,roomy,qD,kC,m1,m2,m3,m4,m5,l1,l2,l3,l4,l5,uH,uV,uU,yU]))|(refine rc (c1) rfl ?_ ?_;(· first|rfl|simp(disch:=omega) only[go_sem,simprocAttr,ek,en,N,b,T,M,roomy,qD,kC,m1,m2,m3,m4,m5,l1,l2,l3,l4,l5,uH,uV,uU,yU]))|(refine bB rfl rfl (λ U=>?_) (λ U=>?_)<;>try simp only[hcL]at U)|(refine bA _ rfl rfl (λ U=>?_) (λ U=>?_)<;>(try simp only[hcL]at U)<;>try omega)|simp(disch:=omega) only[go_sem,simprocAttr,ek,en,N,b,T,M,roomy,qD,kC,m1,m2,m3,m4,m5,l1,l2,l3,l4,l5,uH,uV,uU,yU]|(first|exact fb _|exact xE _ _|exact λ d O=>by cases O)|apply And.intro|omega|decide+kernel
       refine⟨k+1,?_,kN (bj O C m5 l3 @uO.{0,0} @uS.{0,0} @uY.{0,0} (av @qG.{0} @gK.{0} @gB.{0})) [(901,74)],?_⟩
       ·omega
       ·omega
  ·have:k=y.length:=xA;subst this;rw[hTN]at hlk|-;refine aC _ (fo 901 1 (R.map λ t:Nat=>D.int (at0 y t)) rfl (fa _ rfl) xC) ?_;have htl:(R.map λ t:Nat=>D.int (at0 y t)).take R.length=R.map λ t:Nat=>D.int (at0 y t):=aA _ _
   refine ac kO (av T htl @qD.{0}) aa ?_;refine aC _ (dg 12 905 1 rfl rfl) ?_;refine aq (λ(k:Nat)=>k<=y.length/\(F k).length<=k) (λ k=>[(1, .int i),(2, .int f),(3, .ptr 3 0 0 0),(7, .d (.sl ((R.map λ t:Nat=>D.int (at0 y t)).drop (F k).length))),(12, .ref 905 1 0 k k),(13, .int k)]) (λ k=>[(3, .cells [.int n, .d (am ls), .d (aw ar), .d (am cs)]),(905, .row 1 ((bp CB k).map D.int))]) (λ k=>y.length-k) 0 ?_ ?_ ?_
   ·exact⟨uF _,by rw[hF0];exact uI _⟩
   ·have z0:bp CB 0=[]:=rfl;exact kN (bq z0 hF0 htl @uY.{0,0} @uU.{0} @qD.{0}) []
   ·rintro k ⟨hk,hfk⟩;have I:=iG CB k;have Q:((bp CB k).map D.int).take k=(bp CB k).map D.int:=uE (by rw[uC,I];exact uI _);rcases uD k y.length with s|hge
    ·have M:=aK (r:=y) (i:=k) s;have E:=Q2 CB k;have n1:=hnr (at0 y k);have em:=hem k;have eF:=hFs k;rcases K:H k with _|_
     ·rw[K,if_neg xC]at eF;rw[hcb k K]at E;have em0:=em.2 K;have V:((NR (at0 y k)).length:Int)=0:=xA;refine ac kO (aQ T M V Q I) (ae n1) ?_;refine⟨k+1,?_,kN (bq E eF Q @uO.{0,0} @uS.{0,0} @uY.{0,0}) [(905,102)],?_⟩
      ·exact⟨xA,by rw[eF];omega⟩
      ·omega
     ·rw[K,if_pos rfl]at eF;obtain⟨t,N,hct⟩:=hsb k s K;rw[hct]at E;have V:¬((NR (at0 y k)).length:Int)=0:=λ h=>by
       have:=em.1 xA;rw[K]at this;cases this
      have eFl:(F (k+1)).length=(F k).length+1:=by rw[eF,uH];rfl
      have g0:((R.map λ t:Nat=>D.int (at0 y t)).drop (F k).length)[0]? =some (D.int (at0 y t)):=by rw[gC,gX,uJ,N];rfl
      have hpos:0<((R.map λ t:Nat=>D.int (at0 y t)).drop (F k).length).length:=by
       have:=(uB.1 N).1;rw[jR,uC];omega
      have hd1:(((R.map λ t:Nat=>D.int (at0 y t)).drop (F k).length).take ((R.map λ t:Nat=>D.int (at0 y t)).drop (F k).length).length).drop 1=(R.map λ t:Nat=>D.int (at0 y t)).drop (F (k+1)).length:=by
       rw[yE,List.drop_drop,eFl]
      have hc1:∀d,d∈(R.map λ t:Nat=>D.int (at0 y t)).drop (F k).length->d.cells.length=1:=λ d O=>xE _ _ d (jS O)
      have hle1:(R.map λ t:Nat=>D.int (at0 y t)).length=R.length:=uC ..;generalize(R.map λ t:Nat=>D.int (at0 y t)).drop (F k).length=Z at*;have hzl1:Z.length<=1000\/1000<Z.length:=xA
      repeat' first|refine bt rfl ?_|refine aV ?_|refine wR ?_|(refine rc (n1) rfl ?_ ?_;(· first|rfl|simp(disch:=omega) only[go_sem,simprocAttr,T,M,V,Q,I,roomy,g0,hpos,hd1]))|(refine bB rfl rfl (λ U=>?_) (λ U=>?_)<;>try simp only[hcL]at U)|(refine bA _ rfl rfl (λ U=>?_) (λ U=>?_)<;>(try simp only[hcL]at U)<;>try omega)|simp(disch:=omega) only[go_sem,simprocAttr,T,M,V,Q,I,roomy,g0,hpos,hd1]|(first|exact fb _|exact hc1)|apply And.intro|omega|decide+kernel
      refine⟨k+1,?_,kN (bq E hd1 Q @uO.{0,0} @uS.{0,0} @uY.{0,0}) [(905,108)],?_⟩
      ·exact⟨xA,by rw[eFl];omega⟩
      ·omega
    ·have:k=y.length:=xA;subst this;refine ac kO (ae T) aa ?_;exact bZ (o:=905) rfl rfl (by simp[I]) Q
theorem K6 (a:Lv)(h:aH a=true):ah Tryz.prog 165 [lvD a] (lvD a):=by
 obtain⟨F,E,s⟩:=kh h;obtain⟨C,A⟩:=cF h;have M:=vN a.2.2.1 xA;have J:∀(k:Nat) x,a.2.1[k]? =some x->ah Tryz.prog 214 [aj x] (aj x):=λ k x U=>pA x (by have:=cV (uA U);omega)
 have I:∀(k:Nat) x,a.2.2.2[k]? =some x->ah Tryz.prog 214 [aj x] (aj x):=λ k x U=>pA x (by have:=s x (uA U);omega)
 obtain⟨n,V,O,T⟩:=a;dsimp only at*;refine kE Tryz.func165 ?_;intro H B X z;refine ac kO aa (ae M) ?_;refine aC _ (dm 3 1 901 1 rfl rfl rfl) ?_;refine aq (λ(k:Nat)=>k<=V.length) (λ k=>[(1, .ptr 1 0 0 0),(2, .ptr 2 0 0 0),(3, .ptr 3 0 0 0),(15, .d (am V)),(16, .int V.length),(17, .int k)]) (λ k=>[(1, .cells [.int n, .d (am V), .d (aw O), .d (am T)]),(2, .cells [.int 0, .nilS, .nilS, .nilS]),(3, .cells [.int n, .ref 901 1 0 k k, .d (aw O), .nilS]),(901, .row 1 ((V.take k).map aj))]) (λ k=>V.length-k) 0 ?_ ?_ ?_
 ·exact uF _
 ·exact kN (ai @yQ.{0} @uY.{0,0}) []
 ·intro k G;have Z:(V.take k).length=k:=by rw[yA];omega
  have Y:((V.take k).map aj).take k=(V.take k).map aj:=uE (by rw[uC,Z];exact uI _);rcases uD k V.length with Q|K
  ·obtain⟨x,U⟩:=ak Q;have R:=J k x U;have N:=aM U
   repeat' first|refine bt rfl ?_|refine aV ?_|refine wR ?_|(refine rc (R) rfl ?_ ?_;(· first|rfl|simp(disch:=omega) only[go_sem,simprocAttr,U,Z,Y,roomy]))|(refine bB rfl rfl (λ S=>?_) (λ S=>?_)<;>try simp only[hcL]at S)|(refine bA _ rfl rfl (λ S=>?_) (λ S=>?_)<;>(try simp only[hcL]at S)<;>try omega)|simp(disch:=omega) only[go_sem,simprocAttr,U,Z,Y,roomy]|exact λ d L=>by rw[uX.1 L];rfl|apply And.intro|omega|decide+kernel
   refine⟨k+1,?_,kN (aQ N Y @uO.{0,0} @uS.{0,0} @uY.{0,0}) [(901,26)],?_⟩
   ·omega
   ·omega
  ·have:k=V.length:=xA;subst this
   try dsimp only
   rw[yE];refine ac kO aa aa ?_;refine aC _ (dm 3 3 902 1 rfl rfl rfl) ?_;refine aq (λ(k:Nat)=>k<=T.length) (λ k=>[(2, .ptr 2 0 0 0),(3, .ptr 3 0 0 0),(30, .d (am T)),(31, .int T.length),(32, .int k)]) (λ k=>[(2, .cells [.int 0, .nilS, .nilS, .nilS]),(3, .cells [.int n, .ref 901 1 0 V.length V.length, .d (aw O), .ref 902 1 0 k k]),(901, .row 1 (V.map aj)),(902, .row 1 ((T.take k).map aj))]) (λ k=>T.length-k) 0 ?_ ?_ ?_
   ·exact uF _
   ·exact kN (ai @yQ.{0} @uY.{0,0}) []
   ·intro k G;have Z:(T.take k).length=k:=by rw[yA];omega
    have Y:((T.take k).map aj).take k=(T.take k).map aj:=uE (by rw[uC,Z];exact uI _);rcases uD k T.length with Q|K
    ·obtain⟨x,U⟩:=ak Q;have R:=I k x U;have N:=aM U
     repeat' first|refine bt rfl ?_|refine aV ?_|refine wR ?_|(refine rc (R) rfl ?_ ?_;(· first|rfl|simp(disch:=omega) only[go_sem,simprocAttr,U,Z,Y,roomy]))|(refine bB rfl rfl (λ S=>?_) (λ S=>?_)<;>try simp only[hcL]at S)|(refine bA _ rfl rfl (λ S=>?_) (λ S=>?_)<;>(try simp only[hcL]at S)<;>try omega)|simp(disch:=omega) only[go_sem,simprocAttr,U,Z,Y,roomy]|exact λ d L=>by rw[uX.1 L];rfl|apply And.intro|omega|decide+kernel
     refine⟨k+1,?_,kN (aQ N Y @uO.{0,0} @uS.{0,0} @uY.{0,0}) [(902,41)],?_⟩
     ·omega
     ·omega
    ·have:k=T.length:=xA;subst this
     try dsimp only
     rw[yE];refine ac kO aa aa ?_;refine⟨_,_,_,_,rfl,?_⟩;simp(disch:=omega) only[go_sem,simprocAttr,toD,uC,uI,qD];rw[aA,aA]
theorem Tj (a:Lv)(s:wide a)(H:aH a=true)(R:a.2.2.1.length<=700):ah Tryz.prog 166 [lvD a] (lvD (swB a)):=by
 obtain⟨q,b⟩:=cF H;have Z:=tk (Kin.refl H s);have Q:=λ k Y=>u4 (Z (a.2.1.length-1) (uI _)) k Y
 have L:∀k,k+1<a.2.1.length->ah Tryz.prog 215 [lvD (dV a k), .int (k+1:Nat), .int k] (lvD (dV a (k+1))):=λ k Y=>by
  have h:=Z k xA;exact F7 (dV a k) (k+1) k h.wd h.ok (by rw[h.arcs];exact R) (by rw[h.len];omega) (by rw[h.len];omega)
 have I:∀k,k+1<a.2.1.length->ah Tryz.prog 215 [lvD (upB (dV a (a.2.1.length-1)) a.2.1.length k), .int (a.2.1.length-2-k:Nat), .int (a.2.1.length-1-k:Nat)] (lvD (upB (dV a (a.2.1.length-1)) a.2.1.length (k+1))):=λ k Y=>by
  have h:=Q k xA;exact F7 _ (a.2.1.length-2-k) (a.2.1.length-1-k) h.wd h.ok (by rw[h.arcs];exact R) (by rw[h.len];omega) (by rw[h.len];omega)
 have O:∀k,k<=a.2.1.length-1->(dV a k).2.1.length=a.2.1.length:=λ k Y=>(Z k Y).len
 rw[swB];have V:dV a 0=a:=rfl;have S:upB (dV a (a.2.1.length-1)) a.2.1.length 0=dV a (a.2.1.length-1):=rfl;clear Z Q;obtain⟨N,hN⟩:∃N,N=a.2.1.length:=⟨_,rfl⟩;rw[<-hN]at L I O S q|-;generalize upB (dV a (N-1)) N=U at*;generalize dV a=W at*;rw[<-V]at hN;rw[show a=W 0 from V.symm];clear V;refine kE Tryz.func166 ?_;intro z B X w0;refine ac kO aa aa ?_;refine aq (λ(k:Nat)=>k<=N-1) (λ k=>[(1, .ptr 1 0 0 0),(2, .ptr 2 0 0 0),(3, .int (k+1:Nat))]) (λ k=>[(1, .cells [.int (W k).1, .d (am (W k).2.1), .d (aw (W k).2.2.1), .d (am (W k).2.2.2)]),(2, .cells [.int 0, .nilS, .nilS, .nilS])]) (λ k=>N-k) 0 ?_ ?_ ?_
 ·exact uF _
 ·exact kN (ai @yU @gN) []
 ·intro k Y;have J:=O k Y;have G:((k+1:Nat):Int)-1=(k:Int):=xA;have F:((k+1:Nat):Int)+1=((k+1+1:Nat):Int):=xA;rcases uD (k+1) N with T|K
  ·have M:=L k T;refine ac kO (av J G F) (ae M) ?_;refine⟨k+1,?_,kN aa [],?_⟩
   ·omega
   ·omega
  ·have:k=N-1:=xA;subst this;rw[<-S]at J|-;clear S L;refine ac kO (ae J) aa ?_;refine aq (λ(k:Nat)=>k<=N-1) (λ k=>[(1, .ptr 1 0 0 0),(2, .ptr 2 0 0 0),(4, .int ((N:Int)-2-k))]) (λ k=>[(1, .cells [.int (U k).1, .d (am (U k).2.1), .d (aw (U k).2.2.1), .d (am (U k).2.2.2)]),(2, .cells [.int 0, .nilS, .nilS, .nilS])]) (λ k=>N-k) 0 ?_ ?_ ?_
   ·exact uF _
   ·exact kN (ai @Ck @Int.sub_zero) []
   ·intro k Y;rcases uD (k+1) N with T|K
    ·have M:=I k T;have E:(N:Int)-2-k=((N-2-k:Nat):Int):=xA;have C:((N-2-k:Nat):Int)+1=((N-1-k:Nat):Int):=xA;have A:((N-2-k:Nat):Int)-1=(N:Int)-2-((k+1:Nat):Int):=xA;rw[E];refine ac kO (ai C A) (ae M) ?_;refine⟨k+1,?_,kN aa [],?_⟩
     ·omega
     ·omega
    ·have:k=N-1:=xA;subst this;refine ac kO aa aa ?_;refine⟨_,_,_,_,rfl,?_⟩;simp(disch:=omega) only[go_sem,simprocAttr,toD]
theorem QV (r:Int):(if(100:Int)<(if r<0 then 0 else r)then(100:Int)else(if r<0 then 0 else r))=(jm r:Int):=by
 rw[jm];split<;>split<;>omega
theorem JZ (a:Lv)(r:Int)(F:wide a)(Q:a.2.2.1.length<=700):ah Tryz.prog 103 [lvD a, .int r] (.tup [lvD (mZ a r).1, .int (mZ a r).2]):=by
 have U:=oh a F;rw[mZ];rcases T:aH a with _|_<;>rw[T]at U
 ·rw[if_neg xC];refine kE Tryz.func103 ?_;intro O B X z;refine ac kO aa (ae U) ?_;refine⟨_,rfl,⟨_,_,_,_,rfl,?_⟩,ap rfl,trivial⟩;simp(disch:=omega) only[go_sem,simprocAttr,toD];rfl
 ·rw[if_pos rfl];obtain⟨s,q⟩:=cF T;have H:=K6 a T;have h:=tR T F;have E:∀k,ah Tryz.prog 166 [lvD (c9 a k)] (lvD (c9 a (k+1))):=λ k=>Tj _ (h k).wd (h k).ok (by rw[(h k).arcs];exact Q)
  have G:∀k,ah Tryz.prog 105 [lvD (c9 a k)] (.int (bG (c9 a k))):=λ k=>AQ _ (h k).wd (by rw[(h k).len];omega)
  have M:∀k,bQ a (k+1)=if bG (c9 a (k+1))<bG (bQ a k)then c9 a (k+1)else bQ a k:=λ _=>rfl
  have N:bQ a 0=c9 a 0:=rfl;have Y:c9 a 0=a:=rfl;have K:=QV r;have L:jm r<=100:=by rw[jm];omega
  dsimp only;generalize jm r=R at*;rw[<-Y]at U H;rw[show a=c9 a 0 from rfl];rw[show bQ (c9 a 0)=bQ a from rfl];clear h Y;generalize c9 a=W at*;generalize bQ a=Z at*;refine kE Tryz.func103 ?_;intro O B X z;have S:=G 0;refine ac kO (ae K) (av U H S) ?_;refine aq (λ(k:Nat)=>k<=R) (λ k=>[(2, .ptr 2 0 0 0),(4, .ptr 4 0 0 0),(6, .ptr 6 0 0 0),(7, .int (bG (Z k))),(20, .int R),(21, .int k)]) (λ k=>[(2, .cells [.int (W k).1, .d (am (W k).2.1), .d (aw (W k).2.2.1), .d (am (W k).2.2.2)]),(4, .cells [.int 0, .nilS, .nilS, .nilS]),(6, .cells [.int (Z k).1, .d (am (Z k).2.1), .d (aw (Z k).2.2.1), .d (am (Z k).2.2.2)])]) (λ k=>R-k) 0 ?_ ?_ ?_
  ·exact uF _
  ·exact kN (ae N) []
  ·intro k h;rcases uD k R with A|C
   ·have J:=E k;have I:=G (k+1);have V:=M k;by_cases c:bG (W (k+1))<bG (Z k)
    ·rw[if_pos c]at V;refine ac kO (ae c) (ai J I) ?_;refine⟨k+1,?_,kN (ae V) [],?_⟩
     ·omega
     ·omega
    ·rw[if_neg c]at V;refine ac kO (ae c) (ai J I) ?_;refine⟨k+1,?_,kN (ae V) [],?_⟩
     ·omega
     ·omega
   ·have:k=R:=xA;subst this;refine ac kO aa aa ?_;refine⟨_,rfl,⟨_,_,_,_,rfl,?_⟩,ap rfl,trivial⟩;simp(disch:=omega) only[go_sem,simprocAttr,toD]
theorem P4 (a:Lv)(i f:Int)(Q:wide a)(R:a.2.2.1.length<=700):ah Tryz.prog 227 [lvD a, .int i, .int f] (lvD (vu a i f)):=by
 have Y:=km a Q;rw[<-kt]at Y;rw[vu];rcases T:dC a i f with _|_
 ·rw[if_neg xC];rw[dC]at T;rcases Z:aH a with _|_<;>rw[Z]at Y T
  ·refine kE Tryz.func227 ?_;intro V B X K;refine ac kO aa (ae Y) ?_;refine⟨_,_,_,_,rfl,?_⟩;simp(disch:=omega) only[go_sem,simprocAttr,toD];rfl
  ·obtain⟨M,L⟩:=cF Z;have A:¬(((0<=i/\i<a.2.1.length)/\(0<=f/\f<a.2.1.length))/\(f=i-1\/f=i+1)):=by simpa[and_assoc]using T
   obtain⟨n,q,J,H⟩:=a;dsimp only at M L A;refine kE Tryz.func227 ?_;intro V B X K;refine kw kO aa (ae Y) ?_
   repeat' first|exact True.intro|refine Bn.mk ?_ ?_|intro E
   all_goals
    refine⟨_,_,_,_,rfl,?_⟩;simp(disch:=omega) only[go_sem,simprocAttr,toD];rfl
 ·rw[if_pos rfl];obtain⟨Z,hi,hf,C⟩:=NS T;rw[Z]at Y;obtain⟨M,L⟩:=cF Z;obtain⟨i,rfl⟩:∃n:Nat,i=n:=⟨i.toNat,xA⟩;obtain⟨f,rfl⟩:∃n:Nat,f=n:=⟨f.toNat,xA⟩;rw[uK,uK];obtain⟨y,U⟩:=ak (l:=a.2.1) (k:=i) xA;obtain⟨z,N⟩:=ak (l:=a.2.1) (k:=f) xA;have s:=cV (uA U);have F:=QZ a i f Z R y z U N;have S:=Qi a i (hU y z a.2.2.1) Q (by rw[F4];omega);rw[uh Z U (xJ (nk Z U) z a.2.2.1)]at S;have h:kg a i f=dG a i (hU y z a.2.2.1):=by rw[kg,cT U,cT N]
  rw[<-h]at S;generalize kg a i f=P at*;obtain⟨n',b,I,G⟩:=P;clear h;generalize hU y z a.2.2.1=O at*;obtain⟨n,q,J,H⟩:=a;dsimp only at*;refine kE Tryz.func227 ?_;intro V B X K;refine kw kO aa (av Y F S) ?_
  repeat' first|exact True.intro|refine Bn.mk ?_ ?_|intro E
  all_goals
   refine⟨_,_,_,_,rfl,?_⟩;simp(disch:=omega) only[go_sem,simprocAttr,toD]
theorem GJ {a:Lv}{i f:Nat}(U:wide a)(V:aH a=true)(Z:a.2.2.1.length<=700)(S:i<a.2.1.length)(T:f<a.2.1.length)(h:f+1=i\/f=i+1):
  ah Tryz.prog 227 [lvD a, .int i, .int f] (lvD (kg a i f)):=by
 have Y:=P4 a i f U Z;have X:dC a i f=true:=by
  simp only[dC,V,jZ,uN,uG];omega
 rw[vu,if_pos X]at Y;exact Y
theorem Qn (a:Lv)(H:wide a)(T:a.2.2.1.length<=700):ah Tryz.prog 190 [lvD a] (lvD (zk a)):=by
 have O:=km a H;rw[<-kt]at O;rw[zk];rcases J:aH a with _|_<;>rw[J]at O
 ·rw[if_neg xC];refine kE Tryz.func190 ?_;intro M B X b;refine ac kO aa (ae O) ?_;refine⟨_,_,_,_,rfl,?_⟩;simp(disch:=omega) only[go_sem,simprocAttr,toD];rfl
 ·rw[if_pos rfl];obtain⟨t1,t2⟩:=cF J;have Y:=tk (Kin.refl J H);have R:=λ k S=>u4 (Y (a.2.1.length-1) (uI _)) k S
  have I:∀k,k+1<a.2.1.length->ah Tryz.prog 227 [lvD (dV a k), .int (k+1:Nat), .int k] (lvD (dV a (k+1))):=λ k S=>by
   have h:=Y k xA;exact GJ h.wd h.ok (by rw[h.arcs];exact T) (by rw[h.len];omega) (by rw[h.len];omega) (.inl rfl)
  have q:∀k,k+1<a.2.1.length->ah Tryz.prog 227 [lvD (upB (dV a (a.2.1.length-1)) a.2.1.length k), .int (a.2.1.length-2-k:Nat), .int (a.2.1.length-1-k:Nat)] (lvD (upB (dV a (a.2.1.length-1)) a.2.1.length (k+1))):=λ k S=>by
   have h:=R k xA;exact GJ h.wd h.ok (by rw[h.arcs];exact T) (by rw[h.len];omega) (by rw[h.len];omega) (.inr xA)
  rw[swB];have L:dV a 0=a:=rfl;have Q:upB (dV a (a.2.1.length-1)) a.2.1.length 0=dV a (a.2.1.length-1):=rfl;clear Y R;generalize upB (dV a (a.2.1.length-1)) a.2.1.length=U at*;generalize dV a=W at*;obtain⟨n,Z,G,F⟩:=a;dsimp only at*;refine kE Tryz.func190 ?_;intro M B X b;refine ac kO aa (ae O) ?_;refine aq (λ(k:Nat)=>k<=Z.length-1) (λ k=>[(1, .ptr 1 0 0 0),(2, .ptr 2 0 0 0),(3, .ptr 3 0 0 0),(4, .int (k+1:Nat))]) (λ k=>[(1, .cells [.int n, .d (am Z), .d (aw G), .d (am F)]),(2, .cells [.int 0, .nilS, .nilS, .nilS]),(3, .cells [.int (W k).1, .d (am (W k).2.1), .d (aw (W k).2.2.1), .d (am (W k).2.2.2)])]) (λ k=>Z.length-k) 0 ?_ ?_ ?_
  ·exact uF _
  ·exact kN (av @yU @gN L) []
  ·intro k S;have E:((k+1:Nat):Int)-1=(k:Int):=xA;have C:((k+1:Nat):Int)+1=((k+1+1:Nat):Int):=xA;rcases uD (k+1) Z.length with V|K
   ·have N:=I k V;refine ac kO (ai E C) (ae N) ?_;refine⟨k+1,?_,kN aa [],?_⟩
    ·omega
    ·omega
   ·have:k=Z.length-1:=xA;subst this;rw[<-Q];clear Q I;refine ac kO aa aa ?_;refine aq (λ(k:Nat)=>k<=Z.length-1) (λ k=>[(2, .ptr 2 0 0 0),(3, .ptr 3 0 0 0),(5, .int ((Z.length:Int)-2-k))]) (λ k=>[(2, .cells [.int 0, .nilS, .nilS, .nilS]),(3, .cells [.int (U k).1, .d (am (U k).2.1), .d (aw (U k).2.2.1), .d (am (U k).2.2.2)])]) (λ k=>Z.length-k) 0 ?_ ?_ ?_
    ·exact uF _
    ·exact kN (ai @Ck @Int.sub_zero) []
    ·intro k S;rcases uD (k+1) Z.length with V|K
     ·have N:=q k V;have A:(Z.length:Int)-2-k=((Z.length-2-k:Nat):Int):=xA;have z:((Z.length-2-k:Nat):Int)+1=((Z.length-1-k:Nat):Int):=xA;have s:((Z.length-2-k:Nat):Int)-1=(Z.length:Int)-2-((k+1:Nat):Int):=xA;rw[A];refine ac kO (ai z s) (ae N) ?_;refine⟨k+1,?_,kN aa [],?_⟩
      ·omega
      ·omega
     ·have:k=Z.length-1:=xA;subst this;refine ac kO aa aa ?_;refine⟨_,_,_,_,rfl,?_⟩;simp(disch:=omega) only[go_sem,simprocAttr,toD]
theorem Qj (a:Lv)(r:Int)(I:wide a)(M:a.2.2.1.length<=700):ah Tryz.prog 137 [lvD a, .int r] (.tup [lvD (mZ a r).1, .int (mZ a r).2]):=by
 have U:=km a I;rw[<-kt]at U;rw[mZ];rcases N:aH a with _|_<;>rw[N]at U
 ·rw[if_neg xC];refine kE Tryz.func137 ?_;intro L B X w0;refine ac kO aa (ae U) ?_;refine⟨_,rfl,⟨_,_,_,_,rfl,?_⟩,ap rfl,trivial⟩;simp(disch:=omega) only[go_sem,simprocAttr,toD];rfl
 ·rw[if_pos rfl];obtain⟨t1,t2⟩:=cF N;have Y:=tR N I;have T:=ra N I;have Z:∀{b:Lv},Kin a b->ah Tryz.prog 139 [lvD b] (.int (bG b)):=λ{b} E=>by
   have h:=GR b E.wd (by rw[E.len];omega);rw[<-Iz]at h;exact h
  have A:∀k,ah Tryz.prog 190 [lvD (c9 a k)] (lvD (c9 a (k+1))):=λ k=>by
   have h:=Qn (c9 a k) (Y k).wd (by rw[(Y k).arcs];exact M);rw[zk,if_pos (Y k).ok]at h;exact h
  have z:∀k,ah Tryz.prog 139 [lvD (c9 a k)] (.int (bG (c9 a k))):=λ k=>Z (Y k)
  have F:∀k,ah Tryz.prog 139 [lvD (bQ a k)] (.int (bG (bQ a k))):=λ k=>Z (T k)
  have J:∀k,bQ a (k+1)=if bG (c9 a (k+1))<bG (bQ a k)then c9 a (k+1)else bQ a k:=λ _=>rfl
  have K:bQ a 0=c9 a 0:=rfl;have S:c9 a 0=a:=rfl;obtain⟨R,C⟩:∃R,R=jm r:=⟨_,rfl⟩;dsimp only;rw[<-C];rw[jm]at C;rw[<-S]at U;rw[show a=c9 a 0 from rfl];rw[show bQ (c9 a 0)=bQ a from rfl];clear Y S T Z;generalize c9 a=W at*;generalize bQ a=V at*;refine kE Tryz.func137 ?_;intro L B X w0;refine ac kO aa (ae U) ?_;refine aq (λ(k:Nat)=>k<=R) (λ k=>[(1, .int r),(4, .ptr 4 0 0 0),(6, .ptr 6 0 0 0),(7, .ptr 7 0 0 0),(8, .int k)]) (λ k=>[(4, .cells [.int 0, .nilS, .nilS, .nilS]),(6, .cells [.int (V k).1, .d (am (V k).2.1), .d (aw (V k).2.2.1), .d (am (V k).2.2.2)]),(7, .cells [.int (W k).1, .d (am (W k).2.1), .d (aw (W k).2.2.1), .d (am (W k).2.2.2)])]) (λ k=>R-k) 0 ?_ ?_ ?_
  ·exact uF _
  ·exact kN (ae K) []
  ·intro k Y;rcases uD k R with q|s
   ·have H:=A k;have G:=z (k+1);have Q:=F k;have O:=J k;by_cases c:bG (W (k+1))<bG (V k)
    ·rw[if_pos c]at O;refine ac kO (ae c) (av H G Q) ?_;refine⟨k+1,?_,kN (ae O) [],?_⟩
     ·omega
     ·omega
    ·rw[if_neg c]at O;refine ac kO (ae c) (av H G Q) ?_;refine⟨k+1,?_,kN (ae O) [],?_⟩
     ·omega
     ·omega
   ·have:k=R:=xA;subst this;have Q:=F k;refine kw kO aa (ae Q) ?_
    repeat' first|exact True.intro|refine Bn.mk ?_ ?_|intro hc
    all_goals
     refine⟨_,rfl,⟨_,_,_,_,rfl,?_⟩,ap rfl,trivial⟩;simp(disch:=omega) only[go_sem,simprocAttr,toD]
end Go.Proofs.YtjjbhjnpeenbkaaGreatDoor
