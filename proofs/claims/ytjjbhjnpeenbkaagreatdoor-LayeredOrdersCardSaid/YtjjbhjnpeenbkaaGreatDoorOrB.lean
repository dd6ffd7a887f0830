/- Ordering: the matrix of a layer, by the program. -/
import Derived.Test.YtjjbhjnpeenbkaaGreatDoorOrA
import Derived.Test.YtjjbhjnpeenbkaaGreatDoorBaD
set_option linter.unusedSimpArgs false
set_option linter.unusedVariables false
set_option maxHeartbeats 16000000
namespace Go.Proofs.YtjjbhjnpeenbkaaGreatDoor
open Go Go.PS Go.Proofs
set_option maxRecDepth 100000
attribute [local irreducible] ao wpG ah ax
theorem AY (a:Lv)(i:Nat)(u v:Nat):fi a [] (aF a.2.1 i) 0 i 0 u v=0:=by
 rw[fi,qn];split<;>rfl
theorem Oz (a:Lv)(i:Nat)(hw:wide a)(hv:aH a=true)(hil:i<a.2.1.length):
  ah Tryz.prog 109 [lvD a, .int i] (am (orM a i)):=by
 obtain⟨y,hy⟩:=ak hil;obtain⟨t1,t2⟩:=cF hv;have hyl:=cV (uA hy);have E:=qy a [] (aF a.2.1 i) (w:=0) xC i;have O:∀t u v,fi a [] (aF a.2.1 i) 0 i (t+1) u v=fi a [] (aF a.2.1 i) 0 i t u v+au (bb a i (cQ i t)) u v:=λ _ _ _=>rfl
 have M:=AY a i;have G:∀t,Sq (bb a i (cQ i t)):=λ t=>qv a i (cQ i t)
 have S:∀t,(bb a i (cQ i t)).length=0\/(bb a i (cQ i t)).length=y.length:=λ t=>by
  rw[bb];split
  ·right
   simp[eo,cj,ei,hy]
  ·left;rfl
 have hMs:∀t,ah Tryz.prog 177 [lvD a, .int i, .int (cQ i t)] (am (bb a i (cQ i t))):=λ t=>AI a i (cQ i t) hw
 rw[orM,stM];rw[cT hy]at*;generalize fi a [] y 0 i=A at*;obtain⟨Q,hQ⟩:∃Q:Nat->List (List Int),∀t,bb a i (cQ i t)=Q t:=⟨_,λ _=>rfl⟩;simp only[hQ]at*;obtain⟨N,hN⟩:∃N,N=y.length:=⟨_,rfl⟩;have hN5:N<=512:=xA;obtain⟨n,ls,ar,cs⟩:=a;dsimp only at*;refine kE Tryz.func109 ?_;intro hat B X w0;refine ac kO (ai hy hN.symm) aa ?_;refine aC _ (rp 1 19 1 N rfl (λ i H=>by simp(disch:=omega) only[go_sem,simprocAttr,rT,iX]) xC xC) ?_;have hiN:∀(k:Nat) (x y:List D),k<N->(if k<N then x else y)=x:=λ k x y h=>if_pos h
 have hz:∀u,List.replicate N (D.int 0)=(bp (A 0 u) N).map D.int:=λ u=>by
  rw[yn];congr 1;exact lY λ v _=>(M u v).symm
 refine dR (λ(u:Nat)=>u<=N) (λ u=>[(1, .int i),(2, .ptr 2 0 0 0),(5, .ref 19 1 0 N N),(21, .int N),(22, .int u)]) (λ u=>[⟨1,19,1,N,λ k=>if k<u then(bp (A 0 k) N).map D.int else[]⟩]) (λ u=>[(2, .cells [.int n, .d (am ls), .d (aw ar), .d (am cs)])]) (λ u=>N-u) 0 ?_ ?_ ?_
 ·exact uF _
 ·refine kF (ae hN.symm) [] [] ?_;exact cK (ae @zF)
 ·intro u hu;rcases uD u N with hlt|hge
  ·have hzu:=hz u;have Z:¬u<u:=xA;have hrl:=iG (A 0 u) N;have I:∀i,i≠u->((i<u+1)=(i<u)):=λ i h=>propext xA
   refine aC _ (jb _ _ [2,19] 19 u 900 1 1 N (by first|rfl|(simp(disch:=omega) only[go_sem,simprocAttr,Z];done)|(simp(disch:=omega) only[go_sem,simprocAttr,Z];rfl)) (by first|(simp(disch:=omega) only[go_sem,simprocAttr,Z];done)|(simp(disch:=omega) only[go_sem,simprocAttr,Z];rfl)) (by first|(simp(disch:=omega) only[go_sem,simprocAttr,Z];done)|(simp(disch:=omega) only[go_sem,simprocAttr,Z];rfl)) (λ i H V=>by simp(disch:=omega) only[go_sem,simprocAttr,V,Z];(repeat' split)<;>exact .ref _ _ _ _ _ ⟨by simp(disch:=omega) only[go_sem,simprocAttr,V,Z],by simp(disch:=omega) only[go_sem,simprocAttr,V,Z]⟩) (by(repeat' first|refine iS ?_|exact iT (ids:=[2,19]) rfl rfl (uQ rfl)|refine iR ?_|refine iU ?_|refine iP ?_|refine iV ?_|refine iW ?_|refine iQ (by dsimp only;omega) (by dsimp only;omega) xA xA (uQ rfl) ?_);done) rfl rfl rfl) ?_;refine ac kO (ai hN.symm Z) aa ?_;refine⟨u+1,?_,kF aa [(fid 1 u,29)] [] ?_,?_⟩
   ·omega
   ·exact fG (bq hzu hrl Z I @Di @uC.{0,0}) u
   ·omega
  ·have:N=u:=xA;subst this
   try dsimp only
   obtain⟨F,hF⟩:∃F:List D,F=[D.int ((i:Int)-1),D.int ((i:Int)+1)]:=⟨_,rfl⟩;have hFl:F.length=2:=by rw[hF];rfl
   have hFx:∀t,t<2->F[t]? =some (D.int (cQ i t)):=λ t ht=>by
    rw[hF];rcases t with _|_|t
    ·rfl
    ·rfl
    ·omega
   refine ac kO aa aa ?_;refine dR (λ(t:Nat)=>t<=2) (λ t=>[(1, .int i),(2, .ptr 2 0 0 0),(5, .ref 19 1 0 N N),(36, .d (.sl F)),(37, .int 2),(38, .int t)]) (λ t=>[⟨1,19,1,N,λ k=>(bp (A t k) N).map D.int⟩]) (λ t=>[(2, .cells [.int n, .d (am ls), .d (aw ar), .d (am cs)])]) (λ t=>2-t) 0 ?_ ?_ ?_
   ·exact uF _
   ·refine kF (ae hF) [] [] ?_
    repeat' first|exact fmn|refine fmc ⟨?_,?_⟩
    all_goals refine⟨_,(by first|rfl|(simp(disch:=omega) only[go_sem,simprocAttr,hiN];done)|(simp(disch:=omega) only[go_sem,simprocAttr,hiN];rfl)),λ i H=>?_⟩
    all_goals dsimp only at H|-
    all_goals try (exfalso;omega)
    all_goals try (simp(disch:=omega) only[go_sem,simprocAttr,hiN,dh,di];done)
   ·intro t ht;rcases uD t 2 with s|hge2
    ·have hx:=hFx t s;have hM:=hMs t;have hsq:=G t;have T:=S t;have hS:=O t;generalize hR:Q t=R at*;refine ac kO (ae hx) (ae hM) ?_;refine dR (λ(c:Nat)=>c<=R.length) (λ c=>[(1, .int i),(2, .ptr 2 0 0 0),(5, .ref 19 1 0 N N),(36, .d (.sl F)),(37, .int 2),(38, .int t),(45, .d (am R)),(46, .int R.length),(47, .int c)]) (λ c=>[⟨1,19,1,N,λ k=>if k<c then(bp (A (t+1) k) N).map D.int else(bp (A t k) N).map D.int⟩]) (λ c=>[(2, .cells [.int n, .d (am ls), .d (aw ar), .d (am cs)])]) (λ c=>R.length-c) 0 ?_ ?_ ?_
     ·exact uF _
     ·refine kF (ae hFl) [] [] ?_;exact cK (ae @zF)
     ·intro c hc0;rcases uD c R.length with z|hgc
      ·have U:R.length=N:=xA;obtain⟨r,hr⟩:=ak z;have hrl:=hsq.row r (uA hr);have K:r.length=N:=xA;have Z:¬c<c:=xA;refine ac kO (ai hr K) aa ?_;refine dR (λ(b:Nat)=>b<=N) (λ b=>[(1, .int i),(2, .ptr 2 0 0 0),(5, .ref 19 1 0 N N),(9, .int c),(36, .d (.sl F)),(37, .int 2),(38, .int t),(45, .d (am R)),(46, .int R.length),(47, .int c),(52, .d (aj r)),(53, .int N),(54, .int b)]) (λ b=>[⟨1,19,1,N,λ k=>if k<c then(bp (A (t+1) k) N).map D.int else if k=c then(dY (A t c) (A (t+1) c) N b).map D.int else(bp (A t k) N).map D.int⟩]) (λ b=>[(2, .cells [.int n, .d (am ls), .d (aw ar), .d (am cs)])]) (λ b=>N-b) 0 ?_ ?_ ?_
       ·exact uF _
       ·refine kF (ae K) [] [] ?_;exact fG (ai Z @xg) c
       ·intro b hb;have Y:=pQ (A t c) (A (t+1) c) N b;rcases uD b N with C|hgb
        ·obtain⟨p,hp,_,q,g1,g2⟩:=hsq.get z (show b<R.length by omega);rw[hr,yM]at hp;rw[<-hp]at q;have L:=hS c b;have ha:=E t c b;have hg:(dY (A t c) (A (t+1) c) N b)[b]? =some (A t c b):=xe C;have hst:(dY (A t c) (A (t+1) c) N b).set b (A (t+1) c b)=dY (A t c) (A (t+1) c) N (b+1):=xf C;rw[L]at hst;refine aC _ (jb _ _ [2,19] 19 c 900 1 1 N (by first|rfl|(simp(disch:=omega) only[go_sem,simprocAttr,Z,Y];done)|(simp(disch:=omega) only[go_sem,simprocAttr,Z,Y];rfl)) (by first|(simp(disch:=omega) only[go_sem,simprocAttr,Z,Y];done)|(simp(disch:=omega) only[go_sem,simprocAttr,Z,Y];rfl)) (by first|(simp(disch:=omega) only[go_sem,simprocAttr,Z,Y];done)|(simp(disch:=omega) only[go_sem,simprocAttr,Z,Y];rfl)) (λ i H V=>by simp(disch:=omega) only[go_sem,simprocAttr,V,Z,Y];(repeat' split)<;>exact .ref _ _ _ _ _ ⟨by simp(disch:=omega) only[go_sem,simprocAttr,V,Z,Y],by simp(disch:=omega) only[go_sem,simprocAttr,V,Z,Y]⟩) (by(repeat' first|refine iS ?_|exact iT (ids:=[2,19]) rfl rfl (uQ rfl)|refine iR ?_|refine iU ?_|refine iP ?_|refine iV ?_|refine iW ?_|refine iQ (by dsimp only;omega) (by dsimp only;omega) xA xA (uQ rfl) ?_);done) rfl rfl rfl) ?_;refine ac kO (bq hr K q hg Y Z) aa ?_;refine⟨b+1,?_,kF aa [(fid 1 c,900)] [] ?_,?_⟩
         ·omega
         ·exact fG (bq @hst.symm @yW.{0,0} @yJ.{0} @uC.{0,0} Y Z) c
         ·omega
        ·have:N=b:=xA;subst this;have I:∀i,i≠c->((i<c+1)=(i<c)):=λ i h=>propext xA
         refine ac kO aa aa ?_;refine⟨c+1,?_,kF aa [] [] ?_,?_⟩
         ·omega
         ·exact fG (aE Z I @Di @xd) c
         ·omega
      ·have:R.length=c:=xA;subst this;refine ac kO aa aa ?_;rcases T with T|T
       ·have J:∀k,bp (A (t+1) k) N=bp (A t k) N:=λ k=>lY λ v _=>by
         rw[hS,au,oF xA];simp[at0]
        refine⟨t+1,?_,kF aa [] [] ?_,?_⟩
        ·omega
        ·exact cK (av T @zF @J)
        ·omega
       ·have U:R.length=N:=xA;refine⟨t+1,?_,kF aa [] [] ?_,?_⟩
        ·omega
        ·repeat' first|exact fmn|refine fmc ⟨?_,?_⟩
         all_goals refine⟨_,(by first|rfl|(simp(disch:=omega) only[go_sem,simprocAttr,U,hiN];done)|(simp(disch:=omega) only[go_sem,simprocAttr,U,hiN];rfl)),λ i H=>?_⟩
         all_goals dsimp only at H|-
         all_goals try (exfalso;omega)
         all_goals try (simp(disch:=omega) only[go_sem,simprocAttr,U,hiN,dh,di];done)
        ·omega
    ·have:t=2:=xA;subst this
     try dsimp only
     refine aC _ (k6 _ _ _ _ ⟨cc rfl,cc rfl,(by(repeat' first|exact fmn|refine fmc ⟨⟨uQ rfl,uQ rfl,by dsimp only;omega⟩,?_⟩);done)⟩ rfl [2,19] rfl rfl rfl rfl) ?_;refine ac kO aa aa ?_;refine bZ (o:=19) rfl rfl xB ?_;rw[uE xB,sqM,gU];rfl
open Go.Bd (sm aI Part)
theorem O0 (a:Lv)(h:aH a=true):ah Tryz.prog 167 [lvD a] (lvD a):=by
 obtain⟨F,E,s⟩:=kh h;obtain⟨C,A⟩:=cF h;have M:=vN a.2.2.1 xA;have J:∀(k:Nat) x,a.2.1[k]? =some x->ah Tryz.prog 214 [aj x] (aj x):=λ k x U=>pA x (by have:=cV (uA U);omega)
 have I:∀(k:Nat) x,a.2.2.2[k]? =some x->ah Tryz.prog 214 [aj x] (aj x):=λ k x U=>pA x (by have:=s x (uA U);omega)
 obtain⟨n,V,O,T⟩:=a;dsimp only at*;refine kE Tryz.func167 ?_;intro H B X z;refine ac kO aa (ae M) ?_;refine aC _ (dm 3 1 901 1 rfl rfl rfl) ?_;refine aq (λ(k:Nat)=>k<=V.length) (λ k=>[(1, .ptr 1 0 0 0),(2, .ptr 2 0 0 0),(3, .ptr 3 0 0 0),(15, .d (am V)),(16, .int V.length),(17, .int k)]) (λ k=>[(1, .cells [.int n, .d (am V), .d (aw O), .d (am T)]),(2, .cells [.int 0, .nilS, .nilS, .nilS]),(3, .cells [.int n, .ref 901 1 0 k k, .d (aw O), .nilS]),(901, .row 1 ((V.take k).map aj))]) (λ k=>V.length-k) 0 ?_ ?_ ?_
 ·exact uF _
 ·exact kN (ai @yQ.{0} @uY.{0,0}) []
 ·intro k G;have Z:(V.take k).length=k:=by rw[yA];omega
  have Y:((V.take k).map aj).take k=(V.take k).map aj:=uE (by rw[uC,Z];exact uI _);rcases uD k V.length with Q|K
  ·obtain⟨x,U⟩:=ak Q;have R:=J k x U;have N:=aM U
   repeat' first|refine bt rfl ?_|refine aV ?_|refine wR ?_|(refine rc (R) rfl ?_ ?_;(· first|rfl|simp(disch:=omega) only[go_sem,simprocAttr,U,Z,Y,roomy]))|(refine bB rfl rfl (λ S=>?_) (λ S=>?_)<;>try simp only[hcL]at S)|(refine bA _ rfl rfl (λ S=>?_) (λ S=>?_)<;>(try simp only[hcL]at S)<;>try omega)|simp(disch:=omega) only[go_sem,simprocAttr,U,Z,Y,roomy]|exact λ d L=>by rw[uX.1 L];rfl|apply And.intro|omega|decide+kernel
   refine⟨k+1,?_,kN (aQ N Y @uO.{0,0} @uS.{0,0} @uY.{0,0}) [(901,26)],?_⟩
   ·omega
   ·omega
  ·have:k=V.length:=xA;subst this
   try dsimp only
   rw[yE];refine ac kO aa aa ?_;refine aC _ (dm 3 3 902 1 rfl rfl rfl) ?_;refine aq (λ(k:Nat)=>k<=T.length) (λ k=>[(2, .ptr 2 0 0 0),(3, .ptr 3 0 0 0),(30, .d (am T)),(31, .int T.length),(32, .int k)]) (λ k=>[(2, .cells [.int 0, .nilS, .nilS, .nilS]),(3, .cells [.int n, .ref 901 1 0 V.length V.length, .d (aw O), .ref 902 1 0 k k]),(901, .row 1 (V.map aj)),(902, .row 1 ((T.take k).map aj))]) (λ k=>T.length-k) 0 ?_ ?_ ?_
   ·exact uF _
   ·exact kN (ai @yQ.{0} @uY.{0,0}) []
   ·intro k G;have Z:(T.take k).length=k:=by rw[yA];omega
    have Y:((T.take k).map aj).take k=(T.take k).map aj:=uE (by rw[uC,Z];exact uI _);rcases uD k T.length with Q|K
    ·obtain⟨x,U⟩:=ak Q;have R:=I k x U;have N:=aM U
     repeat' first|refine bt rfl ?_|refine aV ?_|refine wR ?_|(refine rc (R) rfl ?_ ?_;(· first|rfl|simp(disch:=omega) only[go_sem,simprocAttr,U,Z,Y,roomy]))|(refine bB rfl rfl (λ S=>?_) (λ S=>?_)<;>try simp only[hcL]at S)|(refine bA _ rfl rfl (λ S=>?_) (λ S=>?_)<;>(try simp only[hcL]at S)<;>try omega)|simp(disch:=omega) only[go_sem,simprocAttr,U,Z,Y,roomy]|exact λ d L=>by rw[uX.1 L];rfl|apply And.intro|omega|decide+kernel
     refine⟨k+1,?_,kN (aQ N Y @uO.{0,0} @uS.{0,0} @uY.{0,0}) [(902,41)],?_⟩
     ·omega
     ·omega
    ·have:k=T.length:=xA;subst this
     try dsimp only
     rw[yE];refine ac kO aa aa ?_;refine⟨_,_,_,_,rfl,?_⟩;simp(disch:=omega) only[go_sem,simprocAttr,toD,uC,uI,qD];rw[aA,aA]
def iw (m:List (List Int))(A b:Nat):Int:=sm (λ j=>if A<j then au m A j else 0) b
def nF (m:List (List Int))(A:Nat):Int:=sm (λ A=>iw m A m.length) A
theorem FR {m:List (List Int)}(h:Sq m)(A b:Nat):0<=iw m A b/\iw m A b<=1000000*b:=Go.Bd.sm_bounds b λ k _=>by
 have:=vI h A k;split<;>omega
theorem On {m:List (List Int)}(h:Sq m)(Z:m.length<=8)(A:Nat):0<=nF m A/\nF m A<=8000000*A:=
 Go.Bd.sm_bounds A λ k _=>by
  have:=FR h k m.length;omega
theorem FS (m:List (List Int))(A:Nat):∀n,A<n->iw m A n=sm (λ j=>au m A (A+1+j)) (n-1-A)
 |0,h=>xA
 |n+1,h=>by
  have e:iw m A (n+1)=iw m A n+(if A<n then au m A n else 0):=rfl;rw[e];by_cases c:A<n
  ·rw[FS m A n c,if_pos c,show n+1-1-A=(n-1-A)+1 by omega];have Z:sm (λ j=>au m A (A+1+j)) (n-1-A+1)=sm (λ j=>au m A (A+1+j)) (n-1-A)+au m A (A+1+(n-1-A)):=rfl;rw[Z,show A+1+(n-1-A)=n by omega]
  ·have:n=A:=xA;subst this;have z:∀k,k<=n->iw m n k=0:=by
    intro k
    induction k with
    |zero=>intro _;rfl
    |succ k X=>
     intro V;have Y:iw m n (k+1)=iw m n k+(if n<k then au m n k else 0):=rfl;rw[Y,X xA,if_neg xA];rfl
   rw[z n (uI _),if_neg c,show n+1-1-n=0 by omega];rfl
theorem sm_congr {f g:Nat->Int}:∀n,(∀k,k<n->f k=g k)->sm f n=sm g n
 |0,_=>rfl
 |n+1,h=>by
  have e:∀f:Nat->Int,sm f (n+1)=sm f n+f n:=λ _=>rfl
  rw[e,e,sm_congr n λ k Z=>h k xA,h n xA]
theorem Oq (m:List (List Int)):nF m m.length=aI (au m) (List.range m.length):=by
 rw[Go.Bd.sumC_range,nF];exact sm_congr _ λ A h=>FS m A _ h
theorem OY (l:List Int)(Z:l.length<=1000000):ah Tryz.prog 52 [aj l] (.bool (decide (l.length<=8))):=by
 refine kE Tryz.func52 ?_;intro h B X Y;refine ac kO aa aa ?_;exact ay (by rw[qW];simp only[uG];omega)
theorem Kh (a:Lv)(i:Nat)(hw:wide a)(hv:aH a=true)(J:a.2.2.1.length<=700)(Y:i<a.2.1.length):
  ah Tryz.prog 53 [lvD a, .int i] (.tup [br (cY a i).1, .bool (cY a i).2]):=by
 obtain⟨y,Z⟩:=ak Y;have hyl:=cV (uA Z);obtain⟨t1,t2⟩:=cF hv;have R:=OY y xA;rw[cY,cT Z];by_cases O:8<y.length
 ·rw[if_pos O];rw[uW xA]at R;obtain⟨n,ls,ar,cs⟩:=a;dsimp only at*;refine kE Tryz.func53 ?_;intro H B X w0;refine ac kO (ae Z) (ae R) ?_;exact⟨_,rfl,dH rfl,ay rfl,trivial⟩
 ·rw[if_neg O];rw[uZ xA]at R;have h2:=Oz a i hw hv Y;have h:=F1 (i:=i) J (by rw[cT Z];exact O);have h3:=sL (orM a i);rw[if_pos h]at h3;obtain⟨Q,V⟩:=rU h;have U:=xH a i;rw[cT Z]at U;have C:=Oq (orM a i);have hbb:0<=(df (orM a i)).2/\(df (orM a i)).2<=64000000:=by
   obtain⟨g1,g2,_⟩:=Go.Bd.best_bounds Q.small V (oN _) (q7 (orM a i));exact⟨g1,g2⟩
  rw[mY,cT Z,<-U,<-C];have E:=FR Q;have z:=On Q V;have M:∀A b,iw (orM a i) A (b+1)=iw (orM a i) A b+(if A<b then au (orM a i) A b else 0):=λ _ _=>rfl
  have K:∀A,nF (orM a i) (A+1)=nF (orM a i) A+iw (orM a i) A (orM a i).length:=λ _=>rfl
  have N:∀A,iw (orM a i) A 0=0:=λ _=>rfl
  have L:nF (orM a i) 0=0:=rfl;generalize orM a i=m at*;generalize iw m=I at*;generalize nF m=T at*;generalize df m=BB at*;obtain⟨p,cost⟩:=BB;obtain⟨n,ls,ar,cs⟩:=a;dsimp only at*;refine kE Tryz.func53 ?_;intro H B X w0;refine ac kO (ae Z) (ai R h2) ?_;refine aq (λ(u:Nat)=>u<=m.length) (λ u=>[(6, .d (am m)),(7, .int (T u)),(24, .int m.length),(25, .int u)]) (λ u=>[]) (λ u=>m.length-u) 0 ?_ ?_ ?_
  ·exact uF _
  ·exact kN (ae L) []
  ·intro u hu;have b1:=z u;rcases uD u m.length with F|hge
   ·have e1:=K u;refine ac kO aa aa ?_;refine aq (λ(b:Nat)=>b<=m.length) (λ b=>[(6, .d (am m)),(7, .int (T u+I u b)),(8, .int u),(24, .int m.length),(25, .int u),(29, .int m.length),(30, .int b)]) (λ b=>[]) (λ b=>m.length-b) 0 ?_ ?_ ?_
    ·exact uF _
    ·exact kN (ai N @jM) []
    ·intro b hb;have b2:=E u b;rcases uD b m.length with G|hgb
     ·obtain⟨q,hq,s,hqv,g1,g2⟩:=Q.get F G;have S:=M u b;by_cases c:u<b
      ·rw[if_pos c]at S;refine ac kO (aE hq hqv s c) aa ?_;refine⟨b+1,?_,kN (ai S @kH) [],?_⟩
       ·omega
       ·omega
      ·rw[if_neg c,jM]at S;refine ac kO (ae c) aa ?_;refine⟨b+1,?_,kN (ae S) [],?_⟩
       ·omega
       ·omega
     ·have:b=m.length:=xA;subst this;refine ac kO aa aa ?_;refine⟨u+1,?_,kN (ae e1) [],?_⟩
      ·omega
      ·omega
   ·have:u=m.length:=xA;subst this;refine ac kO aa (ae h3) ?_;refine⟨_,rfl,dH rfl,ay ?_,trivial⟩;rw[qW]
theorem JU (a:Lv)(i:Nat)(o:List Nat)(A:wide a)(L:aH a=true)(T:i<a.2.1.length)(V:Part (aF a.2.1 i).length 0 o):
  ah Tryz.prog 168 [lvD a, .int i,br o] (lvD (dG a i (aW (aF a.2.1 i) o))):=by
 obtain⟨y,U⟩:=ak T;have z:=cV (uA U);obtain⟨t1,t2⟩:=cF L;rw[cT U]at V|-;have C:=V.len;have M:=AP a i (aW y o) A (by rw[pX];omega);rw[QN L U V]at M;generalize dG a i (aW y o)=P at*;obtain⟨n',b,J,H⟩:=P;obtain⟨n,s,K,I⟩:=a;dsimp only at*;refine kE Tryz.func168 ?_;intro F B X w0;refine ac kO aa aa ?_;refine aC _ (dg 7 901 1 rfl rfl) ?_;refine aq (λ(k:Nat)=>k<=o.length) (λ k=>[(1, .int i),(3, .ptr 3 0 0 0),(6, .ptr 6 0 0 0),(7, .ref 901 1 0 k k),(12, .d (br o)),(13, .int o.length),(14, .int k)]) (λ k=>[(3, .cells [.int n, .d (am s), .d (aw K), .d (am I)]),(6, .cells [.int 0, .nilS, .nilS, .nilS]),(901, .row 1 (((aW y o).take k).map D.int))]) (λ k=>o.length-k) 0 ?_ ?_ ?_
 ·exact uF _
 ·exact kN (ai @yQ.{0} @uY.{0,0}) []
 ·intro k hk;have Z:((aW y o).take k).length=k:=by rw[yA,pX];omega
  have Y:(((aW y o).take k).map D.int).take k=((aW y o).take k).map D.int:=uE (by rw[uC,Z];exact uI _);rcases uD k o.length with S|E
  ·obtain⟨q,Q⟩:=ak S;have O:=V.lt q (uA Q);have N:y[q]? =some (yG y q):=by rw[yG,uT O];rfl
   have G:(aW y o).take (k+1)=(aW y o).take k++[yG y q]:=aM (by rw[aW,uJ,Q];rfl);generalize(aW y o).take k=R at*;refine ac kO (aQ U Q N Z Y) aa ?_;refine⟨k+1,?_,kN (aQ G Y @uO.{0,0} @uS.{0,0} @uY.{0,0}) [(901,28)],?_⟩
   ·omega
   ·omega
  ·have:k=o.length:=xA;subst this;have h:(aW y o).take o.length=aW y o:=uE (by rw[pX];exact uI _);rw[h]at Z Y;rw[h];refine aC _ (fo 901 1 ((aW y o).map D.int) rfl (fa _ rfl) xC) ?_;refine ac kO (av Z Y @qD.{0}) (ae M) ?_;refine⟨_,_,_,_,rfl,?_⟩;simp(disch:=omega) only[go_sem,simprocAttr,toD]
theorem Jr (a:Lv)(hw:wide a)(E:a.2.2.1.length<=700):ah Tryz.prog 104 [lvD a] (lvD (if aH a then dt a else lv0)):=by
 have H:=oh a hw;rcases K:aH a with _|_<;>rw[K]at H
 ·rw[if_neg xC];refine kE Tryz.func104 ?_;intro C B X w0;refine ac kO aa (ae H) ?_;refine⟨_,_,_,_,rfl,?_⟩;simp(disch:=omega) only[go_sem,simprocAttr,toD];rfl
 ·rw[if_pos rfl];obtain⟨t1,t2⟩:=cF K;have h2:=O0 a K;have G:=Kin.refl K hw;have O:∀(b:Lv) (i:Nat),Kin a b->i<a.2.1.length->ah Tryz.prog 53 [lvD b, .int i] (.tup [br (cY b i).1, .bool (cY b i).2]):=λ b i h Q=>Kh b i h.wd h.ok (by rw[h.arcs];exact E) (by rw[h.len];exact Q)
  have N:∀(b:Lv) (i:Nat),Kin a b->i<a.2.1.length->(cY b i).2=true->ah Tryz.prog 168 [lvD b, .int i,br (cY b i).1] (lvD (i6 b i)):=λ b i h Q V=>by
   have hy:=q9 V;have e:(cY b i).1=(df (orM b i)).1:=by rw[cY,if_neg hy.1]
   rw[e];exact JU b i _ h.wd h.ok (by rw[h.len];exact Q) (rW b i)
  obtain⟨M,hM⟩:∃M,M=fJ a 0:=⟨_,rfl⟩;rw[dt,<-hM];generalize hR:cU M a 0=R;obtain⟨L,hL⟩:∃L,L=a.2.1.length:=⟨_,rfl⟩;rw[<-hL]at O N t1;refine kE Tryz.func104 ?_;intro C B X w0;refine ac kO aa (ai H h2) ?_;refine aq (λ(q:Nat×Lv×Nat)=>match q with|(f,b,i)=>Kin a b/\fJ b i<=f/\i<=L/\cU f b i=R) (λ(f,b,i)=>[(1, .ptr 1 0 0 0),(2, .ptr 2 0 0 0),(3, .int i)]) (λ(f,b,i)=>[(1, .cells [.int b.1, .d (am b.2.1), .d (aw b.2.2.1), .d (am b.2.2.2)]),(2, .cells [.int 0, .nilS, .nilS, .nilS])]) (λ(f,b,i)=>f) (M,a,0) ?_ ?_ ?_
  ·exact⟨G,Nat.le_of_eq hM.symm,uF _,hR⟩
  ·exact kN aa []
  ·rintro⟨f,b,i⟩ ⟨U,A,Q,Z⟩;dsimp only at U A Q Z|-;have Y:b.2.1.length=L:=by rw[U.len,hL]
   rcases uD i L with T|hge
   ·have hf:0<f:=by
     have:fJ b i=(bG b).toNat*(b.2.1.length+1)+(b.2.1.length-i):=rfl;omega
    obtain⟨f,rfl⟩:∃g,f=g+1:=⟨f-1,xA⟩;rw[cU,if_pos xA]at Z;have S:=O b i U T;rcases V:(cY b i).2 with _|_
    ·rw[V]at S;rw[V,if_neg xC]at Z;have hs:=xl (b:=b) (i:=i) xA;clear O N;obtain⟨n,z,J,I⟩:=b;dsimp only at Y V S|-;refine ac kO (ae Y) (ae S) ?_;refine⟨(f,(n,z,J,I),i+1),?_,kN (ai @qQ @gN) [],?_⟩
     ·exact⟨U,by dsimp only;omega,T,Z⟩
     ·exact Cm _
    ·have s:=N b i U T V;rw[V]at S;rw[V,if_pos rfl]at Z;have hs:=xj U xA (q9 V).2;have F:=s9 U (i:=i) xA;clear O N;generalize i6 b i=P at*;obtain⟨n,z,J,I⟩:=b;dsimp only at Y V S s|-;refine ac kO (ae Y) (ai S s) ?_;refine⟨(f,P,0),?_,kN aa [],?_⟩
     ·exact⟨F,by dsimp only;omega,uF _,Z⟩
     ·exact Cm _
   ·rw[yh xA]at Z;subst Z;obtain⟨n,z,J,I⟩:=b;dsimp only at Y|-;refine ac kO (ae Y) aa ?_;refine⟨_,_,_,_,rfl,?_⟩;simp(disch:=omega) only[go_sem,simprocAttr,toD]
def jj (a:Lv)(r:Int):Lv×Int×Int:=
 if aH a=true/\0<=r/\r<=100 then(dt (bQ a r.toNat),bG (dt (bQ a r.toNat)),0)else(lv0,0,1)
theorem Ot (a:Lv)(r:Int)(M:wide a)(S:a.2.2.1.length<=700):ah Tryz.prog 50 [lvD a, .int r] (.tup [lvD (jj a r).1, .int (jj a r).2.1, .int (jj a r).2.2]):=by
 have T:=oh a M;rw[jj];by_cases Z:aH a=true/\0<=r/\r<=100
 ·rw[if_pos Z];obtain⟨U,E,C⟩:=Z;rw[U]at T;obtain⟨t1,t2⟩:=cF U;have O:=JZ a r M S;have N:jm r=r.toNat:=by rw[jm];omega
  rw[mZ,if_pos U,N]at O;have Y:=ra U M r.toNat;have L:=Jr (bQ a r.toNat) Y.wd (by rw[Y.arcs];exact S);rw[if_pos Y.ok]at L;have V:=(GY Y.ok Y.wd).1;have F:=AQ (dt (bQ a r.toNat)) V.wd (by rw[V.len,Y.len];omega);dsimp only at O|-;generalize dt (bQ a r.toNat)=Q at*;generalize bQ a r.toNat=P at*;generalize bG P=tp at*;generalize bG Q=tq at*;clear Y V;obtain⟨b,A,J,H⟩:=Q;obtain⟨n2,z,I,G⟩:=P;refine kE Tryz.func50 ?_;intro R B X K;refine ac kO aa (aE T O L F) ?_;refine⟨_,rfl,⟨_,_,_,_,rfl,?_⟩,ap rfl,ap rfl,trivial⟩;simp(disch:=omega) only[go_sem,simprocAttr,toD]
 ·rw[if_neg Z];rcases U:aH a with _|_<;>rw[U]at T
  ·refine kE Tryz.func50 ?_;intro R B X K;refine ac kO aa (ae T) ?_;refine⟨_,rfl,⟨_,_,_,_,rfl,?_⟩,ap rfl,ap rfl,trivial⟩;simp(disch:=omega) only[go_sem,simprocAttr,toD];rfl
  ·have q:¬(0<=r/\r<=100):=λ h=>Z ⟨U,h⟩
   refine kE Tryz.func50 ?_;intro R B X K;refine kw kO aa (ae T) ?_
   repeat' first|exact True.intro|refine Bn.mk ?_ ?_|intro s
   all_goals
    refine⟨_,rfl,⟨_,_,_,_,rfl,?_⟩,ap rfl,ap rfl,trivial⟩;simp(disch:=omega) only[go_sem,simprocAttr,toD];rfl
end Go.Proofs.YtjjbhjnpeenbkaaGreatDoor
namespace Go.Proofs.YtjjbhjnpeenbkaaGreatDoor
open Go Go.PS Go.Proofs
set_option maxRecDepth 100000
attribute [local irreducible] ao wpG ah ax
theorem Ei {i t:Nat}(h:t<2):(i:Int)-1+2*(t:Int)=cQ i t:=by
 rw[cQ];split<;>omega
theorem Ou (a:Lv)(i:Nat)(hw:wide a)(hv:aH a=true)(hil:i<a.2.1.length):
  ah Tryz.prog 228 [lvD a, .int i] (am (orM a i)):=by
 obtain⟨y,F⟩:=ak hil;obtain⟨t1,t2⟩:=cF hv;have hyl:=cV (uA F);have s:=qy a [] (aF a.2.1 i) (w:=0) xC i;have K:∀t u v,fi a [] (aF a.2.1 i) 0 i (t+1) u v=fi a [] (aF a.2.1 i) 0 i t u v+au (bb a i (cQ i t)) u v:=λ _ _ _=>rfl
 have J:=AY a i;have z:∀t,Sq (bb a i (cQ i t)):=λ t=>qv a i (cQ i t)
 have U:∀t,(bb a i (cQ i t)).length=0\/(bb a i (cQ i t)).length=y.length:=λ t=>by
  rw[bb];split
  ·right
   simp[eo,cj,ei,F]
  ·left;rfl
 have C:∀t,ah Tryz.prog 254 [lvD a, .int i, .int (cQ i t)] (am (bb a i (cQ i t))):=λ t=>Qb a i (cQ i t) hw
 rw[orM,stM];rw[cT F]at*;generalize fi a [] y 0 i=A at*;obtain⟨Q,hQ⟩:∃Q:Nat->List (List Int),∀t,bb a i (cQ i t)=Q t:=⟨_,λ _=>rfl⟩;simp only[hQ]at*;obtain⟨N,hN⟩:∃N,N=y.length:=⟨_,rfl⟩;have hN5:N<=512:=xA;obtain⟨n,E,O,M⟩:=a;dsimp only at*;rw[<-hN];refine kE Tryz.func228 ?_;intro hat B X w0
 repeat' first|refine bt rfl ?_|refine aV ?_|refine dA (Nat.beq 11) ck ?_|(refine bB rfl rfl (λ q=>?_) (λ q=>?_)<;>try simp only[hcL]at q)|(refine bA _ rfl rfl (λ q=>?_) (λ q=>?_)<;>(try simp only[hcL]at q)<;>try omega)|simp(disch:=omega) only[go_sem,simprocAttr]|apply And.intro|omega|decide+kernel
 refine dR (κ:=Nat) (λ k=>k<=N) (λ k=>[(1, .int i),(2, .ptr 2 0 0 0),(5, .ref 901 1 0 k k),(6, .int k)])
  (λ k=>match k with|0=>[]|j+1=>[⟨1,901,1,j+1,λ _=>(List.replicate N 0).map D.int⟩])
  (λ k=>match k with|0=>[(2, .cells [.int n, .d (am E), .d (aw O), .d (am M)]),(901, .row 1 [])]|j+1=>[(2, .cells [.int n, .d (am E), .d (aw O), .d (am M)])]) (λ k=>N-k) 0 ?_ ?_ ?_
 ·exact uF _
 ·refine kF aa [] [(901,11)] ?_;exact cK aa
 ·intro k hk;rcases uD k N with hkN|hkN
  ·cases k with
   |zero=>
    dsimp only;refine ac kO (av F hN.symm @gE.{0}) aa ?_;refine⟨1,?_,kF (ai @yT.{0,0} @yH.{0}) [(fid 1 0,29)] [(901,31)] ?_,?_⟩
    ·omega
    ·refine uM.2 ⟨⟨λ _=> .ref 29 1 0 N N,?_,λ r hr=>?_⟩,yB _⟩
     ·rw[oR];simp(disch:=omega) only[go_sem,simprocAttr,gE]
     ·obtain rfl:r=0:=by dsimp only at hr;omega
      simp(disch:=omega) only[go_sem,simprocAttr,yT,yH]
    ·omega
   |succ k=>
    dsimp only;refine ac kO (ai F hN.symm) aa ?_;refine⟨k+2,?_,kF (ai @yT.{0,0} @yH.{0}) [(fid 1 (k+1),29)] [(901,31)] ?_,?_⟩
    ·omega
    ·repeat' first|exact fmn|refine fmc ⟨?_,?_⟩
     all_goals refine⟨_,(by first|rfl|(simp(disch:=omega) only[go_sem,simprocAttr,yT,yH];done)|(simp(disch:=omega) only[go_sem,simprocAttr,yT,yH];rfl)),λ i hi=>?_⟩
     all_goals dsimp only at hi|-
     all_goals rcases gJ (i=k+1)with rfl|hi0
     all_goals try (exfalso;omega)
     all_goals try (simp(disch:=omega) only[go_sem,simprocAttr,yT,yH,dh,di];done)
     all_goals try (simp(disch:=omega) only[go_sem,simprocAttr,yT,yH,hi0,dh,di];done)
    ·omega
  ·cases k with
   |zero=>
    obtain rfl:N=0:=xA;have hQ0:∀t,(Q t).length=0:=λ t=>by have:=U t;omega
    dsimp only;refine ac kO (ai F hN.symm) aa ?_;refine aq (λ(t:Nat)=>t<=2) (λ t=>[(1, .int i),(2, .ptr 2 0 0 0),(5, .ref 901 1 0 0 0),(7, .int ((i:Int)-1+2*(t:Int)))]) (λ t=>[(2, .cells [.int n, .d (am E), .d (aw O), .d (am M)]),(901, .row 1 [])]) (λ t=>2-t) 0 ?_ ?_ ?_
    ·exact uF _
    ·exact kN (av @Ck @Ax @jM) []
    ·intro t ht;rcases uD t 2 with T|hge2
     ·have hM:=C t;have hq0:=hQ0 t;have L:=Ei (i:=i) T;have e1:(i:Int)-1+2*(t:Int)+2=(i:Int)-1+2*((t+1:Nat):Int):=xA;have e2:cQ i t+2=(i:Int)-1+2*((t+1:Nat):Int):=by rw[<-L];omega
      have b0:cQ i t<=(i:Int)+1/\(i:Int)-1<=cQ i t:=by rw[<-L];omega
      rw[L];generalize Q t=R at*;generalize cQ i t=fx at*;refine ac kO aa (ae hM) ?_;refine aq (λ(c:Nat)=>c<=R.length) (λ c=>[(1, .int i),(2, .ptr 2 0 0 0),(5, .ref 901 1 0 0 0),(7, .int fx),(8, .d (am R)),(9, .int c)]) (λ c=>[(2, .cells [.int n, .d (am E), .d (aw O), .d (am M)]),(901, .row 1 [])]) (λ c=>R.length-c) 0 ?_ ?_ ?_
      ·exact uF _
      ·exact kN aa []
      ·intro c hc0;refine ac kO aa aa ?_;refine⟨t+1,?_,kN (ae e2) [],?_⟩
       ·omega
       ·omega
     ·have:t=2:=xA;subst this;refine ac kO aa aa ?_;refine bZ (o:=901) rfl rfl xB ?_;simp[sqM]
   |succ k=>
    obtain rfl:N=k+1:=xA;have hz0:∀r,(bp (A 0 r) (k+1)).map D.int=List.replicate (k+1) (D.int 0):=λ r=>by
     rw[yn];congr 1;exact lY λ v _=>J r v
    have hiN:∀(j:Nat) (x y:List D),j<k+1->(if j<k+1 then x else y)=x:=λ j x y h=>if_pos h
    dsimp only;refine ac kO (ai F hN.symm) aa ?_;refine dR (λ(t:Nat)=>t<=2) (λ t=>[(1, .int i),(2, .ptr 2 0 0 0),(5, .ref 901 1 0 (k+1) (k+1)),(7, .int ((i:Int)-1+2*(t:Int)))]) (λ t=>[⟨1,901,1,k+1,λ j=>(bp (A t j) (k+1)).map D.int⟩]) (λ t=>[(2, .cells [.int n, .d (am E), .d (aw O), .d (am M)])]) (λ t=>2-t) 0 ?_ ?_ ?_
    ·exact uF _
    ·refine kF (av @Ck @Ax @jM) [] [] ?_;exact cK (av hz0 @yT.{0,0} @yH.{0})
    ·intro t ht;rcases uD t 2 with T|hge2
     ·have hM:=C t;have hsq:=z t;have S:=U t;have hS:=K t;have L:=Ei (i:=i) T;have e2:cQ i t+2=(i:Int)-1+2*((t+1:Nat):Int):=by rw[<-L];omega
      have b0:cQ i t<=(i:Int)+1/\(i:Int)-1<=cQ i t:=by rw[<-L];omega
      rw[L];generalize hR:Q t=R at*;generalize cQ i t=fx at*;refine ac kO aa (ae hM) ?_;refine dR (λ(c:Nat)=>c<=R.length) (λ c=>[(1, .int i),(2, .ptr 2 0 0 0),(5, .ref 901 1 0 (k+1) (k+1)),(7, .int fx),(8, .d (am R)),(9, .int c)]) (λ c=>[⟨1,901,1,k+1,λ j=>if j<c then(bp (A (t+1) j) (k+1)).map D.int else(bp (A t j) (k+1)).map D.int⟩]) (λ c=>[(2, .cells [.int n, .d (am E), .d (aw O), .d (am M)])]) (λ c=>R.length-c) 0 ?_ ?_ ?_
      ·exact uF _
      ·refine kF aa [] [] ?_;exact cK (ae @zF)
      ·intro c hc0;rcases uD c R.length with hlc|hgc
       ·have V:R.length=k+1:=xA;obtain⟨r,hr⟩:=ak hlc;have hrl:=hsq.row r (uA hr);have hrN:r.length=k+1:=xA;have Y:¬c<c:=xA;refine ac kO (ae V) aa ?_;refine dR (λ(b:Nat)=>b<=k+1) (λ b=>[(1, .int i),(2, .ptr 2 0 0 0),(5, .ref 901 1 0 (k+1) (k+1)),(7, .int fx),(8, .d (am R)),(9, .int c),(10, .int b)]) (λ b=>[⟨1,901,1,k+1,λ j=>if j<c then(bp (A (t+1) j) (k+1)).map D.int else if j=c then(dY (A t c) (A (t+1) c) (k+1) b).map D.int else(bp (A t j) (k+1)).map D.int⟩]) (λ b=>[(2, .cells [.int n, .d (am E), .d (aw O), .d (am M)])]) (λ b=>k+1-b) 0 ?_ ?_ ?_
        ·exact uF _
        ·refine kF aa [] [] ?_;exact fG (ai Y @xg) c
        ·intro b hb;have Z:=pQ (A t c) (A (t+1) c) (k+1) b;rcases uD b (k+1)with hlb|hgb
         ·obtain⟨p,hp,_,hpv,g1,g2⟩:=hsq.get hlc (show b<R.length by omega);rw[hr,yM]at hp;rw[<-hp]at hpv;have I:=hS c b;have ha:=s t c b;have hg:(dY (A t c) (A (t+1) c) (k+1) b)[b]? =some (A t c b):=xe hlb;have hst:(dY (A t c) (A (t+1) c) (k+1) b).set b (A (t+1) c b)=dY (A t c) (A (t+1) c) (k+1) (b+1):=xf hlb;rw[I]at hst;refine aC _ (jb _ _ [2,901] 901 c 900 1 1 (k+1) (by first|rfl|(simp(disch:=omega) only[go_sem,simprocAttr,Y,Z];done)|(simp(disch:=omega) only[go_sem,simprocAttr,Y,Z];rfl)) (by first|(simp(disch:=omega) only[go_sem,simprocAttr,Y,Z];done)|(simp(disch:=omega) only[go_sem,simprocAttr,Y,Z];rfl)) (by first|(simp(disch:=omega) only[go_sem,simprocAttr,Y,Z];done)|(simp(disch:=omega) only[go_sem,simprocAttr,Y,Z];rfl)) (λ i hi H=>by simp(disch:=omega) only[go_sem,simprocAttr,H,Y,Z];(repeat' split)<;>exact .ref _ _ _ _ _ ⟨by simp(disch:=omega) only[go_sem,simprocAttr,H,Y,Z],by simp(disch:=omega) only[go_sem,simprocAttr,H,Y,Z]⟩) (by(repeat' first|refine iS ?_|exact iT (ids:=[2,901]) rfl rfl (uQ rfl)|refine iR ?_|refine iU ?_|refine iP ?_|refine iV ?_|refine iW ?_|refine iQ (by dsimp only;omega) (by dsimp only;omega) xA xA (uQ rfl) ?_);done) rfl rfl rfl) ?_;refine ac kO (bV hr hrN V hpv hg Z Y) aa ?_;refine⟨b+1,?_,kF aa [(fid 1 c,900)] [] ?_,?_⟩
          ·omega
          ·exact fG (bq @hst.symm @yW.{0,0} @yJ.{0} @uC.{0,0} Z Y) c
          ·omega
         ·have:b=k+1:=xA;subst this;have hsu:∀i,i≠c->((i<c+1)=(i<c)):=λ i h=>propext xA
          refine ac kO (ae V) aa ?_;refine⟨c+1,?_,kF aa [] [] ?_,?_⟩
          ·omega
          ·exact fG (aE Y hsu @Di @xd) c
          ·omega
       ·have:R.length=c:=xA;subst this;refine ac kO aa aa ?_;rcases S with S|S
        ·have G:∀j,bp (A (t+1) j) (k+1)=bp (A t j) (k+1):=λ j=>lY λ v _=>by
          rw[hS,au,oF xA];simp[at0]
         refine⟨t+1,?_,kF (ae e2) [] [] ?_,?_⟩
         ·omega
         ·exact cK (av S @zF @G)
         ·omega
        ·have V:R.length=k+1:=xA;refine⟨t+1,?_,kF (ae e2) [] [] ?_,?_⟩
         ·omega
         ·repeat' first|exact fmn|refine fmc ⟨?_,?_⟩
          all_goals refine⟨_,(by first|rfl|(simp(disch:=omega) only[go_sem,simprocAttr,V,hiN];done)|(simp(disch:=omega) only[go_sem,simprocAttr,V,hiN];rfl)),λ i hi=>?_⟩
          all_goals dsimp only at hi|-
          all_goals try (exfalso;omega)
          all_goals try (simp(disch:=omega) only[go_sem,simprocAttr,V,hiN,dh,di];done)
         ·omega
     ·have:t=2:=xA;subst this
      try dsimp only
      refine aC _ (k6 _ _ _ _ ⟨cc rfl,cc rfl,(by(repeat' first|exact fmn|refine fmc ⟨⟨uQ rfl,uQ rfl,by dsimp only;omega⟩,?_⟩);done)⟩ rfl [2,901] rfl rfl rfl rfl) ?_;refine ac kO aa aa ?_;refine bZ (o:=901) rfl rfl xB ?_;rw[uE xB,sqM,gU,qE];rfl
theorem wc {L:List (List Int)}{k:Nat}(h:L.length=k):((List.range k).map λ r=>D.sl ((aF L r).map D.int))=L.map aj:=by
 refine yX λ j=>?_
 by_cases c:j<k
 ·obtain⟨x,Z⟩:=ak (l:=L) (k:=j) xA;rw[uJ,yZ c,uJ,Z,qB,qB,cT Z]
 ·rw[uL (by simp;omega),uL (by simp;omega)]
theorem IY (a:Lv)(i:Int)(lay:List Int)(L:List (List Int))(Q:L.length=a.2.1.length)(hL:∀(k:Nat) x,a.2.1[k]? =some x->L[k]? =some (if(k:Int)=i then lay else x))
  (hls:a.2.1.length<=1000)(z:∀x,x∈a.2.1->x.length<=1000000)(F:lay.length<=1000000)(har:a.2.2.1.length<=1000000)(hcs:a.2.2.2.length<=1000)(G:∀x,x∈a.2.2.2->x.length<=1000000):
  ah Tryz.prog 191 [lvD a, .int i,aj lay] (lvD (a.1,L,a.2.2.1,a.2.2.2)):=by
 obtain⟨n,O,R,V⟩:=a;dsimp only at*;refine kE Tryz.func191 ?_;intro hat B X w0;refine ac kO aa aa ?_;refine aC _ (dm 7 1 901 1 rfl rfl rfl) ?_;refine dR (κ:=Nat) (λ k=>k<=O.length) (λ k=>[(1, .int i),(2, .d (aj lay)),(3, .ptr 3 0 0 0),(6, .ptr 6 0 0 0),(7, .ptr 7 0 0 0),(8, .int k)])
  (λ k=>match k with|0=>[]|j+1=>[⟨1,901,1,j+1,λ r=>(aF L r).map D.int⟩])
  (λ k=>match k with|0=>[(3, .cells [.int n, .d (am O), .d (aw R), .d (am V)]),(6, .cells [.int 0, .nilS, .nilS, .nilS]),(7, .cells [.int n, .ref 901 1 0 0 0, .d (aw R), .d (am V)]),(901, .row 1 [])]|j+1=>[(3, .cells [.int n, .d (am O), .d (aw R), .d (am V)]),(6, .cells [.int 0, .nilS, .nilS, .nilS]),(7, .cells [.int n, .ref 901 1 0 (j+1) (j+1), .d (aw R), .d (am V)])]) (λ k=>O.length-k) 0 ?_ ?_ ?_
 ·exact uF _
 ·refine kF aa [] [] ?_;exact cK aa
 ·intro k b;rcases uD k O.length with S|S
  ·cases k with
   |zero=>
    obtain⟨x,U⟩:=ak S;dsimp only;have T:=hL (0) x U;by_cases c:((0:Nat):Int)=i
    ·rw[if_pos c]at T;subst c;have h:aF L (0)=lay:=cT T;have K:lay.length<=1000000:=F;have Y:(lay.map D.int).take lay.length=lay.map D.int:=aA _ _
     repeat' first|refine bt rfl ?_|refine aV ?_|refine dA (Nat.beq 31) ck ?_|(refine bB rfl rfl (λ Z=>?_) (λ Z=>?_)<;>try simp only[hcL]at Z)|(refine bA _ rfl rfl (λ Z=>?_) (λ Z=>?_)<;>(try simp only[hcL]at Z)<;>try omega)|simp(disch:=omega) only[go_sem,simprocAttr,yY,U,roomy,gE,uC,yU,Y]|exact fb _|apply And.intro|omega|decide+kernel
     refine⟨1,?_,kF (ai h @uC.{0,0}) [(fid 1 0,33)] [(901,35)] ?_,?_⟩
     ·omega
     ·refine uM.2 ⟨⟨λ _=> .ref 33 1 0 lay.length lay.length,?_,λ r C=>?_⟩,yB _⟩
      ·rw[oR];simp(disch:=omega) only[go_sem,simprocAttr,gE]
      ·obtain rfl:r=0:=by dsimp only at C;omega
       simp(disch:=omega) only[go_sem,simprocAttr,h,uC]
     ·omega
    ·rw[if_neg c]at T;have h:aF L (0)=x:=cT T;have K:x.length<=1000000:=z x (uA U);have Y:(x.map D.int).take x.length=x.map D.int:=aA _ _
     repeat' first|refine bt rfl ?_|refine aV ?_|refine dA (Nat.beq 31) ck ?_|(refine bB rfl rfl (λ Z=>?_) (λ Z=>?_)<;>try simp only[hcL]at Z)|(refine bA _ rfl rfl (λ Z=>?_) (λ Z=>?_)<;>(try simp only[hcL]at Z)<;>try omega)|simp(disch:=omega) only[go_sem,simprocAttr,yY,U,c,roomy,gE,uC,yU,Y]|exact fb _|apply And.intro|omega|decide+kernel
     refine⟨1,?_,kF (ai h @uC.{0,0}) [(fid 1 0,33)] [(901,35)] ?_,?_⟩
     ·omega
     ·refine uM.2 ⟨⟨λ _=> .ref 33 1 0 x.length x.length,?_,λ r C=>?_⟩,yB _⟩
      ·rw[oR];simp(disch:=omega) only[go_sem,simprocAttr,gE]
      ·obtain rfl:r=0:=by dsimp only at C;omega
       simp(disch:=omega) only[go_sem,simprocAttr,h,uC]
     ·omega
   |succ k=>
    obtain⟨x,U⟩:=ak S;dsimp only;have T:=hL (k+1) x U;by_cases c:((k+1:Nat):Int)=i
    ·rw[if_pos c]at T;subst c;have h:aF L (k+1)=lay:=cT T;have K:lay.length<=1000000:=F;have Y:(lay.map D.int).take lay.length=lay.map D.int:=aA _ _
     repeat' first|refine bt rfl ?_|refine aV ?_|refine dA (Nat.beq 31) ck ?_|(refine bB rfl rfl (λ Z=>?_) (λ Z=>?_)<;>try simp only[hcL]at Z)|(refine bA _ rfl rfl (λ Z=>?_) (λ Z=>?_)<;>(try simp only[hcL]at Z)<;>try omega)|simp(disch:=omega) only[go_sem,simprocAttr,yY,U,roomy,gE,uC,yU,Y]|exact fb _|apply And.intro|omega|decide+kernel
     refine⟨k+2,?_,kF (ai h @uC.{0,0}) [(fid 1 (k+1),33)] [(901,35)] ?_,?_⟩
     ·omega
     ·repeat' first|exact fmn|refine fmc ⟨?_,?_⟩
      all_goals refine⟨_,(by first|rfl|(simp(disch:=omega) only[go_sem,simprocAttr,h,uC];done)|(simp(disch:=omega) only[go_sem,simprocAttr,h,uC];rfl)),λ i E=>?_⟩
      all_goals dsimp only at E|-
      all_goals rcases gJ (i=k+1)with rfl|J
      all_goals try (exfalso;omega)
      all_goals try (simp(disch:=omega) only[go_sem,simprocAttr,h,uC,dh,di];done)
      all_goals try (simp(disch:=omega) only[go_sem,simprocAttr,h,uC,J,dh,di];done)
     ·omega
    ·rw[if_neg c]at T;have h:aF L (k+1)=x:=cT T;have K:x.length<=1000000:=z x (uA U);have Y:(x.map D.int).take x.length=x.map D.int:=aA _ _
     repeat' first|refine bt rfl ?_|refine aV ?_|refine dA (Nat.beq 31) ck ?_|(refine bB rfl rfl (λ Z=>?_) (λ Z=>?_)<;>try simp only[hcL]at Z)|(refine bA _ rfl rfl (λ Z=>?_) (λ Z=>?_)<;>(try simp only[hcL]at Z)<;>try omega)|simp(disch:=omega) only[go_sem,simprocAttr,yY,U,c,roomy,gE,uC,yU,Y]|exact fb _|apply And.intro|omega|decide+kernel
     refine⟨k+2,?_,kF (ai h @uC.{0,0}) [(fid 1 (k+1),33)] [(901,35)] ?_,?_⟩
     ·omega
     ·repeat' first|exact fmn|refine fmc ⟨?_,?_⟩
      all_goals refine⟨_,(by first|rfl|(simp(disch:=omega) only[go_sem,simprocAttr,h,uC];done)|(simp(disch:=omega) only[go_sem,simprocAttr,h,uC];rfl)),λ i E=>?_⟩
      all_goals dsimp only at E|-
      all_goals rcases gJ (i=k+1)with rfl|J
      all_goals try (exfalso;omega)
      all_goals try (simp(disch:=omega) only[go_sem,simprocAttr,h,uC,dh,di];done)
      all_goals try (simp(disch:=omega) only[go_sem,simprocAttr,h,uC,J,dh,di];done)
     ·omega
  ·cases k with
   |zero=>
    have I:O.length=0:=xA;dsimp only;have s:L=[]:=gQ.1 xA;subst s;have A:O=[]:=gQ.1 I;subst A
    repeat' first|refine bt rfl ?_|refine aV ?_|refine dA (Nat.beq 37) ck ?_|(refine bB rfl rfl (λ Z=>?_) (λ Z=>?_)<;>try simp only[hcL]at Z)|(refine bA _ rfl rfl (λ Z=>?_) (λ Z=>?_)<;>(try simp only[hcL]at Z)<;>try omega)|simp(disch:=omega) only[go_sem,simprocAttr,roomy,uC,yU,aA,yY]|exact vo R|apply And.intro|omega|decide+kernel
    refine aC _ (dm 7 3 902 1 rfl rfl rfl) ?_;refine dR (κ:=Nat) (λ k=>k<=V.length) (λ k=>[(3, .ptr 3 0 0 0),(6, .ptr 6 0 0 0),(7, .ptr 7 0 0 0),(10, .int k)])
     (λ k=>match k with|0=>[]|j+1=>[⟨1,902,1,j+1,λ r=>(aF V r).map D.int⟩])
     (λ k=>match k with|0=>[(3, .cells [.int n, .d (am []), .d (aw R), .d (am V)]),(6, .cells [.int 0, .nilS, .nilS, .nilS]),(7, .cells [.int n, .ref 901 1 0 0 0, .ref 40 2 0 R.length R.length, .ref 902 1 0 0 0]),(901, .row 1 []),(40, .row 2 (R.map bo)),(902, .row 1 [])]|j+1=>[(3, .cells [.int n, .d (am []), .d (aw R), .d (am V)]),(6, .cells [.int 0, .nilS, .nilS, .nilS]),(7, .cells [.int n, .ref 901 1 0 0 0, .ref 40 2 0 R.length R.length, .ref 902 1 0 (j+1) (j+1)]),(901, .row 1 []),(40, .row 2 (R.map bo))]) (λ k=>V.length-k) 0 ?_ ?_ ?_
    ·exact uF _
    ·refine kF aa [] [] ?_;exact cK aa
    ·intro k b;rcases uD k V.length with S|S
     ·cases k with
      |zero=>
       obtain⟨x,U⟩:=ak S;dsimp only;have h:aF V (0)=x:=cT U;have K:x.length<=1000000:=G x (uA U);have Y:(x.map D.int).take x.length=x.map D.int:=aA _ _
       repeat' first|refine bt rfl ?_|refine aV ?_|refine dA (Nat.beq 52) ck ?_|(refine bB rfl rfl (λ Z=>?_) (λ Z=>?_)<;>try simp only[hcL]at Z)|(refine bA _ rfl rfl (λ Z=>?_) (λ Z=>?_)<;>(try simp only[hcL]at Z)<;>try omega)|simp(disch:=omega) only[go_sem,simprocAttr,yY,U,roomy,gE,uC,yU,Y]|exact fb _|apply And.intro|omega|decide+kernel
       refine⟨1,?_,kF (ai h @uC.{0,0}) [(fid 1 0,58)] [(902,60)] ?_,?_⟩
       ·omega
       ·refine uM.2 ⟨⟨λ _=> .ref 58 1 0 x.length x.length,?_,λ r C=>?_⟩,yB _⟩
        ·rw[oR];simp(disch:=omega) only[go_sem,simprocAttr,gE]
        ·obtain rfl:r=0:=by dsimp only at C;omega
         simp(disch:=omega) only[go_sem,simprocAttr,h,uC]
       ·omega
      |succ k=>
       obtain⟨x,U⟩:=ak S;dsimp only;have h:aF V (k+1)=x:=cT U;have K:x.length<=1000000:=G x (uA U);have Y:(x.map D.int).take x.length=x.map D.int:=aA _ _
       repeat' first|refine bt rfl ?_|refine aV ?_|refine dA (Nat.beq 52) ck ?_|(refine bB rfl rfl (λ Z=>?_) (λ Z=>?_)<;>try simp only[hcL]at Z)|(refine bA _ rfl rfl (λ Z=>?_) (λ Z=>?_)<;>(try simp only[hcL]at Z)<;>try omega)|simp(disch:=omega) only[go_sem,simprocAttr,yY,U,roomy,gE,uC,yU,Y]|exact fb _|apply And.intro|omega|decide+kernel
       refine⟨k+2,?_,kF (ai h @uC.{0,0}) [(fid 1 (k+1),58)] [(902,60)] ?_,?_⟩
       ·omega
       ·repeat' first|exact fmn|refine fmc ⟨?_,?_⟩
        all_goals refine⟨_,(by first|rfl|(simp(disch:=omega) only[go_sem,simprocAttr,h,uC];done)|(simp(disch:=omega) only[go_sem,simprocAttr,h,uC];rfl)),λ i E=>?_⟩
        all_goals dsimp only at E|-
        all_goals rcases gJ (i=k+1)with rfl|J
        all_goals try (exfalso;omega)
        all_goals try (simp(disch:=omega) only[go_sem,simprocAttr,h,uC,dh,di];done)
        all_goals try (simp(disch:=omega) only[go_sem,simprocAttr,h,uC,J,dh,di];done)
       ·omega
     ·cases k with
      |zero=>
       have I:V.length=0:=xA;dsimp only;have H:V=[]:=gQ.1 I;subst H;refine ac kO aa aa ?_;refine⟨_,_,_,_,rfl,?_⟩;simp(disch:=omega) only[go_sem,simprocAttr,toD,Q,uC,kB,uI,qD,yQ,uY]
       all_goals try rw[uE (by simp[Q])]
       all_goals try rw[aA]
       all_goals try rw[aA]
       all_goals rfl
      |succ k=>
       obtain⟨N,hN⟩:∃N,N=k+1:=⟨_,rfl⟩;have M:V.length=k+1:=xA;dsimp only;refine aC _ (k6 _ _ _ _ ⟨cc rfl,cc rfl,(by(repeat' first|exact fmn|refine fmc ⟨⟨uQ rfl,uQ rfl,by dsimp only;omega⟩,?_⟩);done)⟩ rfl [3,6,7,902,901,40] rfl rfl rfl rfl) ?_;rw[wc M,<-M];refine ac kO aa aa ?_;refine⟨_,_,_,_,rfl,?_⟩;simp(disch:=omega) only[go_sem,simprocAttr,toD,Q,uC,kB,uI,qD]
       all_goals try rw[uE (by simp[Q])]
       all_goals try rw[aA]
       all_goals try rw[aA]
       all_goals rfl
   |succ k=>
    obtain⟨N,hN⟩:∃N,N=k+1:=⟨_,rfl⟩;have M:O.length=k+1:=xA;dsimp only;refine aC _ (k6 _ _ _ _ ⟨cc rfl,cc rfl,(by(repeat' first|exact fmn|refine fmc ⟨⟨uQ rfl,uQ rfl,by dsimp only;omega⟩,?_⟩);done)⟩ rfl [3,6,7,901] rfl rfl rfl rfl) ?_;have T:L.length=k+1:=xA;have q:¬(O.length:Int)<O.length:=Int.lt_irrefl _;rw[wc T,<-M]
    repeat' first|refine bt rfl ?_|refine aV ?_|refine dA (Nat.beq 37) ck ?_|(refine bB rfl rfl (λ Z=>?_) (λ Z=>?_)<;>try simp only[hcL]at Z)|(refine bA _ rfl rfl (λ Z=>?_) (λ Z=>?_)<;>(try simp only[hcL]at Z)<;>try omega)|simp(disch:=omega) only[go_sem,simprocAttr,roomy,uC,yU,aA,yY,q]|exact vo R|apply And.intro|omega|decide+kernel
    refine aC _ (dm 7 3 902 1 rfl rfl rfl) ?_;refine dR (κ:=Nat) (λ k=>k<=V.length) (λ k=>[(3, .ptr 3 0 0 0),(6, .ptr 6 0 0 0),(7, .ptr 7 0 0 0),(10, .int k)])
     (λ k=>match k with|0=>[]|j+1=>[⟨1,902,1,j+1,λ r=>(aF V r).map D.int⟩])
     (λ k=>match k with|0=>[(3, .cells [.int n, .d (am O), .d (aw R), .d (am V)]),(6, .cells [.int 0, .nilS, .nilS, .nilS]),(7, .cells [.int n, .ref 901 1 0 O.length O.length, .ref 40 2 0 R.length R.length, .ref 902 1 0 0 0]),(901, .row 1 (L.map aj)),(40, .row 2 (R.map bo)),(902, .row 1 [])]|j+1=>[(3, .cells [.int n, .d (am O), .d (aw R), .d (am V)]),(6, .cells [.int 0, .nilS, .nilS, .nilS]),(7, .cells [.int n, .ref 901 1 0 O.length O.length, .ref 40 2 0 R.length R.length, .ref 902 1 0 (j+1) (j+1)]),(901, .row 1 (L.map aj)),(40, .row 2 (R.map bo))]) (λ k=>V.length-k) 0 ?_ ?_ ?_
    ·exact uF _
    ·refine kF aa [] [] ?_;exact cK aa
    ·intro k b;rcases uD k V.length with S|S
     ·cases k with
      |zero=>
       obtain⟨x,U⟩:=ak S;dsimp only;have h:aF V (0)=x:=cT U;have K:x.length<=1000000:=G x (uA U);have Y:(x.map D.int).take x.length=x.map D.int:=aA _ _
       repeat' first|refine bt rfl ?_|refine aV ?_|refine dA (Nat.beq 52) ck ?_|(refine bB rfl rfl (λ Z=>?_) (λ Z=>?_)<;>try simp only[hcL]at Z)|(refine bA _ rfl rfl (λ Z=>?_) (λ Z=>?_)<;>(try simp only[hcL]at Z)<;>try omega)|simp(disch:=omega) only[go_sem,simprocAttr,yY,U,roomy,gE,uC,yU,Y]|exact fb _|apply And.intro|omega|decide+kernel
       refine⟨1,?_,kF (ai h @uC.{0,0}) [(fid 1 0,58)] [(902,60)] ?_,?_⟩
       ·omega
       ·refine uM.2 ⟨⟨λ _=> .ref 58 1 0 x.length x.length,?_,λ r C=>?_⟩,yB _⟩
        ·rw[oR];simp(disch:=omega) only[go_sem,simprocAttr,gE]
        ·obtain rfl:r=0:=by dsimp only at C;omega
         simp(disch:=omega) only[go_sem,simprocAttr,h,uC]
       ·omega
      |succ k=>
       obtain⟨x,U⟩:=ak S;dsimp only;have h:aF V (k+1)=x:=cT U;have K:x.length<=1000000:=G x (uA U);have Y:(x.map D.int).take x.length=x.map D.int:=aA _ _
       repeat' first|refine bt rfl ?_|refine aV ?_|refine dA (Nat.beq 52) ck ?_|(refine bB rfl rfl (λ Z=>?_) (λ Z=>?_)<;>try simp only[hcL]at Z)|(refine bA _ rfl rfl (λ Z=>?_) (λ Z=>?_)<;>(try simp only[hcL]at Z)<;>try omega)|simp(disch:=omega) only[go_sem,simprocAttr,yY,U,roomy,gE,uC,yU,Y]|exact fb _|apply And.intro|omega|decide+kernel
       refine⟨k+2,?_,kF (ai h @uC.{0,0}) [(fid 1 (k+1),58)] [(902,60)] ?_,?_⟩
       ·omega
       ·repeat' first|exact fmn|refine fmc ⟨?_,?_⟩
        all_goals refine⟨_,(by first|rfl|(simp(disch:=omega) only[go_sem,simprocAttr,h,uC];done)|(simp(disch:=omega) only[go_sem,simprocAttr,h,uC];rfl)),λ i E=>?_⟩
        all_goals dsimp only at E|-
        all_goals rcases gJ (i=k+1)with rfl|J
        all_goals try (exfalso;omega)
        all_goals try (simp(disch:=omega) only[go_sem,simprocAttr,h,uC,dh,di];done)
        all_goals try (simp(disch:=omega) only[go_sem,simprocAttr,h,uC,J,dh,di];done)
       ·omega
     ·cases k with
      |zero=>
       have I:V.length=0:=xA;dsimp only;have H:V=[]:=gQ.1 I;subst H;refine ac kO aa aa ?_;refine⟨_,_,_,_,rfl,?_⟩;simp(disch:=omega) only[go_sem,simprocAttr,toD,Q,uC,kB,uI,qD,yQ,uY]
       all_goals try rw[uE (by simp[Q])]
       all_goals try rw[aA]
       all_goals try rw[aA]
       all_goals rfl
      |succ k=>
       obtain⟨N,hN⟩:∃N,N=k+1:=⟨_,rfl⟩;have M:V.length=k+1:=xA;dsimp only;refine aC _ (k6 _ _ _ _ ⟨cc rfl,cc rfl,(by(repeat' first|exact fmn|refine fmc ⟨⟨uQ rfl,uQ rfl,by dsimp only;omega⟩,?_⟩);done)⟩ rfl [3,6,7,902,901,40] rfl rfl rfl rfl) ?_;rw[wc M,<-M];refine ac kO aa aa ?_;refine⟨_,_,_,_,rfl,?_⟩;simp(disch:=omega) only[go_sem,simprocAttr,toD,Q,uC,kB,uI,qD]
       all_goals try rw[uE (by simp[Q])]
       all_goals try rw[aA]
       all_goals try rw[aA]
       all_goals rfl
end Go.Proofs.YtjjbhjnpeenbkaaGreatDoor
