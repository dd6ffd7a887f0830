/- Reorder: the walks. -/
import Derived.Test.YtjjbhjnpeenbkaaGreatDoorG
set_option linter.unusedSimpArgs false
set_option linter.unusedVariables false
set_option maxHeartbeats 16000000
namespace Go.Proofs.YtjjbhjnpeenbkaaGreatDoor
open Go Go.PS Go.Proofs
set_option maxRecDepth 100000
attribute [local irreducible] ao wpG ah ax
theorem vo (l:List Arc):∀d,d∈l.map bo->d.cells.length=2:=oo bo 2 (λ _=>rfl) l
theorem vN (l:List Arc)(T:l.length<=1000000):ah Tryz.prog 210 [aw l] (aw l):=by
 rcases gJ (l=[])with rfl|Z
 ·refine kE Tryz.func210 ?_;intro h B X U;refine ac kO aa aa ?_;refine sf 4 rfl ?_;intro b;cases b
  ·refine ac (cE (Nat.beq 5) (b:=true)) aa aa ?_;exact dH rfl
  ·refine ac kO aa aa ?_;exact dH rfl
 ·have V:(l.map bo).isEmpty=false:=by simpa using Z
  have Y:0<l.length:=An.2 Z;refine kE Tryz.func210 ?_;intro h B X U;refine ac (cE (Nat.beq 5) (b:=true)) (ai V @aA) aa ?_;exact bZ (o:=7) rfl rfl xB (uE xB)
theorem pA (l:List Int)(T:l.length<=1000000):ah Tryz.prog 214 [aj l] (aj l):=by
 rcases gJ (l=[])with rfl|Z
 ·refine kE Tryz.func214 ?_;intro h B X U;refine ac kO aa aa ?_;refine sf 4 rfl ?_;intro b;cases b
  ·refine ac (cE (Nat.beq 5) (b:=true)) aa aa ?_;exact dH rfl
  ·refine ac kO aa aa ?_;exact dH rfl
 ·have V:(l.map D.int).isEmpty=false:=by simpa using Z
  have Y:0<l.length:=An.2 Z;refine kE Tryz.func214 ?_;intro h B X U;refine ac (cE (Nat.beq 5) (b:=true)) (ai V @aA) aa ?_;exact bZ (o:=7) rfl rfl xB (uE xB)
theorem th (l:List (List Int))(N:l.length<=1000)(Q:∀y,y∈l->y.length<=1000000):ax Tryz.prog 247 [.d (am l)] [(2000, .dead)] (.ref 2000 1 0 l.length l.length) [(2000, .row 1 (l.map aj))]:=by
 refine kM Tryz.func247 ?_;intro B X M;refine ac kO aa aa ?_;refine aC _ (DY 7 l.length rfl) ?_;refine aq (λ(k:Nat)=>k<=l.length) (λ k=>[(0, .d (am l)),(3, .ref 7 1 0 l.length l.length),(9, .int l.length),(10, .int k)]) (λ k=>[(7, .row 1 ((l.take k).map aj++List.replicate (l.length-k) (.sl [])))]) (λ k=>l.length-k) 0 ?_ ?_ ?_
 ·exact uF _
 ·exact kN (aE @yQ.{0} @uY.{0,0} @gB.{0} @kC) []
 ·intro k O;rcases uD k l.length with U|R
  ·obtain⟨p,T⟩:=ak U;have Z:=pA p (Q p (uA T));have S:((l.take k).map aj++List.replicate (l.length-k) (D.sl [])).set k (aj p)=(l.take (k+1)).map aj++List.replicate (l.length-(k+1)) (D.sl []):=by
    have V:((l.take k).map aj).length=k:=by rw[uC,yA];omega
    have e:l.length-k=(l.length-(k+1))+1:=xA;rw[Cu,V,if_neg xA,jK,e,zS,kX,aM T,uO,qG];rfl
   have h:((l.take k).map aj++List.replicate (l.length-k) (D.sl [])).length=l.length:=by
    rw[uH,uC,yA,yH];omega
   have Y:((l.take k).map aj++List.replicate (l.length-k) (D.sl []))[k]? =some (D.sl []):=by
    rw[qL (by rw[uC,yA];omega),uC,yA,jF xA,jK,gA,if_pos xA]
   refine ac kO (av T h Y) (ae Z) ?_;refine⟨k+1,?_,kN (ae S) [],?_⟩
   ·omega
   ·omega
  ·have:k=l.length:=xA;subst this
   try dsimp only
   rw[yE,jK,Cv,yS];refine ac kP aa aa ?_;refine kR aa [(2000,7)] [(2, .ref 2000 1 0 _ _)] [(2000, .row 1 _)] ?_;refine aV ?_;exact⟨rfl,uM.2 ⟨rfl,yB _⟩⟩
theorem C4 {r:List Int}{l:List Arc}{k:Nat}{a:Arc}(X:l[k]? =some a):∀e,k<e->e<=l.length->(ci r l e)[k]? =some (ba r (aX r l k).length a)
 |0,h,_=>xA
 |e+1,h,V=>by
  have Z:=tg r l e xA;rw[ci,b8];rw[ci]at Z;rcases qP.1 h with Y|rfl
  ·rw[qZ (by rw[Z];exact Y)];exact C4 X e Y xA
  ·rw[qL (by rw[Z];exact uI _),Z,jK,rf,X];rfl
theorem kh {a:Lv}(h:aH a=true):a.2.2.1.length<=800/\a.2.2.2.length<=256/\∀y,y∈a.2.2.2->y.length<=260:=by
 obtain⟨b,X,J⟩:=oX h;have S:a.2.2.1=bK (cd a) (bT a).2 (bT a).2.length:=gL (λ x:Lv=>x.2.2.1) X;have Y:a.2.2.2=ci (cd a) (bT a).2 (bT a).2.length:=gL (λ x:Lv=>x.2.2.2) X;have R:=s6 b.gap (bT a).2.length (uI _);have Q:=tg (cd a) (bT a).2 (bT a).2.length (uI _);have L:=b.all_len;have K:=(rx b.gok).2.2.1;rw[<-S]at R;rw[<-Y]at Q;refine⟨xA,xA,λ y N=>?_⟩;obtain⟨k,Z⟩:=qA N;have O:=(uB.1 Z).1;obtain⟨x,V⟩:=ak (l:=(bT a).2) (k:=k) xA;rw[Y,C4 V _ xA (uI _),yM]at Z;rw[<-Z,vK,bc];have U:=b.rk x.1.toNat;have T:=b.rk x.2.toNat;have M:=b.ends V;rw[show((x.1.toNat:Nat):Int)=x.1 by omega]at U;rw[show((x.2.toNat:Nat):Int)=x.2 by omega]at T;omega
def h9 (a:Lv)(i:Int)(o:List Int):Lv×Int:=
 if aH a=false then(lv0,1)else if i<0\/(a.2.1.length:Int)<=i then(lv0,3)
 else if bh o≠bh ((a.2.1[i.toNat]?).getD [])then(lv0,6)else((a.1,a.2.1.set i.toNat o,a.2.2.1,a.2.2.2),0)
theorem AP (a:Lv)(i:Int)(o:List Int)(z:wide a)(b:o.length<=600):ah Tryz.prog 216 [lvD a, .int i,aj o] (.tup [lvD (h9 a i o).1, .int (h9 a i o).2]):=by
 have L:=oh a z;rw[h9];rcases h:aH a with _|_<;>rw[h]at L
 ·rw[if_pos rfl];refine kE Tryz.func216 ?_;intro V B X F;refine ac kO aa (ae L) ?_;refine⟨_,rfl,⟨_,_,_,_,rfl,?_⟩,ap ?_,trivial⟩
  ·simp(disch:=omega) only[go_sem,simprocAttr,toD];rfl
  ·rfl
 ·rw[if_neg xC];obtain⟨G,t2⟩:=cF h;by_cases O:i<0\/(a.2.1.length:Int)<=i
  ·rw[if_pos O];obtain⟨n,A,E,C⟩:=a;dsimp only at O G;refine kE Tryz.func216 ?_;intro V B X F;refine kw kO aa (ae L) ?_
   repeat' first|exact True.intro|refine Bn.mk ?_ ?_|intro T
   all_goals
    refine⟨_,rfl,⟨_,_,_,_,rfl,?_⟩,ap ?_,trivial⟩
    ·simp(disch:=omega) only[go_sem,simprocAttr,toD];rfl
    ·rfl
  ·rw[if_neg O];obtain⟨y,Z⟩:=ak (l:=a.2.1) (k:=i.toNat) xA;have s:=cV (uA Z);rw[Z,yN];have K:=vg o;have J:=vg y;have N:=vf o xA;have M:=vf y xA;have I:=DZ (bh o) (bh y);by_cases Y:bh o=bh y
   ·rw[if_neg (by simpa using Y)];rw[uZ Y]at I;have Q:=th a.2.1 xA (λ y Z=>by have:=cV Z;omega);have U:a.2.2.1.length<=1000000/\a.2.2.2.length<=1000/\∀y,y∈a.2.2.2->y.length<=1000000:=by
     obtain⟨s1,s2,q⟩:=kh h;exact⟨xA,xA,λ y Z=>by have:=q y Z;omega⟩
    have S:=vN a.2.2.1 U.1;have R:=th a.2.2.2 U.2.1 U.2.2;have H:=pA o xA;obtain⟨n,A,E,C⟩:=a;dsimp only at O G Z Q S R;refine kE Tryz.func216 ?_;intro V B X F
    repeat' first|refine bt rfl ?_|refine aV ?_|refine wR ?_|(refine rc (L) rfl ?_ ?_;(· first|rfl|simp(disch:=omega) only[go_sem,simprocAttr,yY,Z]))|(refine rc (K) rfl ?_ ?_;(· first|rfl|simp(disch:=omega) only[go_sem,simprocAttr,yY,Z]))|(refine rc (J) rfl ?_ ?_;(· first|rfl|simp(disch:=omega) only[go_sem,simprocAttr,yY,Z]))|(refine rc (N) rfl ?_ ?_;(· first|rfl|simp(disch:=omega) only[go_sem,simprocAttr,yY,Z]))|(refine rc (M) rfl ?_ ?_;(· first|rfl|simp(disch:=omega) only[go_sem,simprocAttr,yY,Z]))|(refine rc (I) rfl ?_ ?_;(· first|rfl|simp(disch:=omega) only[go_sem,simprocAttr,yY,Z]))|refine rcM [(2000,43)] (Q) rfl ?_|refine rcM [(2000,49)] (R) rfl ?_|(refine rc (S) rfl ?_ ?_;(· first|rfl|simp(disch:=omega) only[go_sem,simprocAttr,yY,Z]))|(refine rc (H) rfl ?_ ?_;(· first|rfl|simp(disch:=omega) only[go_sem,simprocAttr,yY,Z]))|(refine bB rfl rfl (λ T=>?_) (λ T=>?_)<;>try simp only[hcL]at T)|(refine bA _ rfl rfl (λ T=>?_) (λ T=>?_)<;>(try simp only[hcL]at T)<;>try omega)|simp(disch:=omega) only[go_sem,simprocAttr,yY,Z]|apply And.intro|omega|decide+kernel
    refine⟨_,rfl,⟨_,_,_,_,rfl,?_⟩,ap rfl,trivial⟩;simp(disch:=omega) only[go_sem,simprocAttr,toD,uC,yJ,uI,qD];rw[uE (by rw[yJ,uC];exact uI _),uE (by rw[uC];exact uI _)];simp only[lvD,am,yW]
   ·rw[if_pos (by simpa using Y)];rw[uW Y]at I;obtain⟨n,A,E,C⟩:=a;dsimp only at O G Z;refine kE Tryz.func216 ?_;intro V B X F;refine ac kO (ae Z) (bq L K J N M I) ?_;refine⟨_,rfl,⟨_,_,_,_,rfl,?_⟩,ap ?_,trivial⟩
    ·simp(disch:=omega) only[go_sem,simprocAttr,toD];rfl
    ·rfl
theorem Qi (a:Lv)(i:Int)(o:List Int)(hw:wide a)(ho:o.length<=600):ah Tryz.prog 252 [lvD a, .int i,aj o] (.tup [lvD (h9 a i o).1, .int (h9 a i o).2]):=by
 have R:=km a hw;rw[<-kt]at R;rw[h9];rcases h:aH a with _|_<;>rw[h]at R
 ·rw[if_pos rfl];refine kE Tryz.func252 ?_;intro U B X s;refine ac kO aa (ae R) ?_;refine⟨_,rfl,⟨_,_,_,_,rfl,?_⟩,ap ?_,trivial⟩
  ·simp(disch:=omega) only[go_sem,simprocAttr,toD];rfl
  ·rfl
 ·rw[if_neg xC];obtain⟨b,t2⟩:=cF h;by_cases I:i<0\/(a.2.1.length:Int)<=i
  ·rw[if_pos I];obtain⟨n,Z,H,G⟩:=a;dsimp only at I b;refine kE Tryz.func252 ?_;intro U B X s;refine kw kO aa (ae R) ?_
   repeat' first|exact True.intro|refine Bn.mk ?_ ?_|intro hc
   all_goals
    refine⟨_,rfl,⟨_,_,_,_,rfl,?_⟩,ap ?_,trivial⟩
    ·simp(disch:=omega) only[go_sem,simprocAttr,toD];rfl
    ·rfl
  ·rw[if_neg I];obtain⟨y,Q⟩:=ak (l:=a.2.1) (k:=i.toNat) xA;have z:=cV (uA Q);rw[Q,yN];have M:=yb o xA;have L:=yb y xA;have J:=Hz (bh o) (bh y);obtain⟨n,Z,H,G⟩:=a;dsimp only at I b Q z t2;by_cases V:bh o=bh y
   ·rw[if_neg (by simpa using V)];rw[uZ V]at J;have Y:o.length=y.length:=by rw[<-us o,V,us]
    obtain⟨p,rfl⟩:∃p:Nat,i=p:=⟨i.toNat,xA⟩;rw[uK]at Q|-;refine kE Tryz.func252 ?_;intro U B X s;refine ac kO (ai Q Y) (aE R M L J) ?_;refine aC _ (dm 8 1 901 1 rfl rfl rfl) ?_;refine aq (λ(k:Nat)=>k<=Z.length) (λ k=>[(1, .int p),(2, .d (aj o)),(3, .ptr 3 0 0 0),(6, .ptr 6 0 0 0),(8, .ptr 8 0 0 0),(9, .int k)]) (λ k=>[(3, .cells [.int n, .d (am Z), .d (aw H), .d (am G)]),(6, .cells [.int 0, .nilS, .nilS, .nilS]),(8, .cells [.int n, .ref 901 1 0 k k, .d (aw H), .d (am G)]),(901, .row 1 (((Z.set p o).take k).map aj))]) (λ k=>Z.length-k) 0 ?_ ?_ ?_
    ·exact uF _
    ·exact kN (ai @yQ.{0} @uY.{0,0}) []
    ·intro k hk;have T:(((Z.set p o).take k).map aj).length=k:=by rw[uC,yA,yJ];omega
     have K:List.take k (((Z.set p o).take k).map aj)=((Z.set p o).take k).map aj:=uE (by rw[T];exact uI _);rcases uD k Z.length with N|hge
     ·obtain⟨q,C⟩:=ak N;by_cases F:k=p
      ·subst F;have S:=aM (l:=Z.set k o) (k:=k) (x:=o) (by rw[qF,if_pos rfl,if_pos N]);refine ac kO (ai C T) aa ?_;refine⟨k+1,?_,kN (av S @uO.{0,0} K) [(901,67)],?_⟩
       ·omega
       ·omega
      ·have S:=aM (l:=Z.set p o) (k:=k) (x:=q) (by rw[qF,if_neg xA,C]);have O:¬(k:Int)=p:=xA;refine ac kO (av C T O) aa ?_;refine⟨k+1,?_,kN (av S @uO.{0,0} K) [(901,77)],?_⟩
       ·omega
       ·omega
     ·have:k=Z.length:=xA;subst this;refine ac kO aa aa ?_;refine⟨_,rfl,⟨_,_,_,_,rfl,?_⟩,ap rfl,trivial⟩;have A:(Z.set p o).take Z.length=Z.set p o:=uE (by rw[yJ];exact uI _);simp(disch:=omega) only[go_sem,simprocAttr,toD,A,uC,yJ,uI,qD];rw[uE (by rw[uC,yJ];exact uI _)]
   ·rw[if_pos (by simpa using V)];rw[uW V]at J;by_cases Y:o.length=y.length
    all_goals
     refine kE Tryz.func252 ?_;intro U B X s;have E:=bI 2 U rfl;rw[uC]at E;refine ac kO (ai Q Y) (aE R M L J) ?_
     all_goals
      refine⟨_,rfl,⟨_,_,_,_,rfl,?_⟩,ap ?_,trivial⟩
      ·simp(disch:=omega) only[go_sem,simprocAttr,toD];rfl
      ·rfl
theorem IN {a b:Lv}(h:fd a=fd b):aH a=aH b:=by
 obtain⟨n,V,S,R⟩:=a;obtain⟨Q,X,U,T⟩:=b;simp only[fd,Bw]at h;obtain⟨rfl,h,rfl,rfl⟩:=h;have Z:∀v,bz V v=bz X v:=λ v=>by rw[<-y6,h,y6]
 have Y:V.length=X.length:=by rw[<-uC (f:=bh),h,uC]
 simp only[aH,ld,mo,bT,cd,oE,fd,Z,Y,h];have e:∀w:Nat->Bool,w=w:=λ _=>rfl
 congr 3
 ·congr 1
  congr 1
  funext v
  simp only[oE,Z]
theorem G6 {a:Lv}{i:Nat}{o y:List Int}(Y:a.2.1[i]? =some y)(h:bh o=bh y):fd (a.1,a.2.1.set i o,a.2.2.1,a.2.2.2)=fd a:=by
 simp only[fd,yW,h]
 congr 2
 refine yX λ u=>?_
 rw[qF];split
 ·subst i;rw[uJ,Y];split
  ·rfl
  ·rename_i Z;rw[uC]at Z;exact absurd (uB.1 Y).1 Z
 ·rfl
theorem QO {a:Lv}{i:Int}{o:List Int}(h:(h9 a i o).2=0):aH (h9 a i o).1=true:=by
 rw[h9]at h|-;split at h
 ·cases h
 ·rename_i Y;split at h
  ·cases h
  ·rename_i V;split at h
   ·cases h
   ·rename_i Z;rw[if_neg Y,if_neg V,if_neg Z];obtain⟨y,X⟩:=ak (l:=a.2.1) (k:=i.toNat) xA;rw[X,yN]at Z;rw[IN (G6 X (Decidable.not_not.1 Z))];simpa using Y
theorem QP {a:Lv}{i:Int}{o:List Int}(Y:wide a)(U:o.length<=600):wide (h9 a i o).1:=by
 rw[h9];split
 ·intro y h;cases h
 ·split
  ·intro y h;cases h
  ·rename_i V;split
   ·intro y h;cases h
   ·rename_i Z;intro y h;rcases kL h with h|rfl
    ·exact Y y h
    ·obtain⟨z,X⟩:=ak (l:=a.2.1) (k:=i.toNat) xA;rw[X,yN]at Z;have e:=gL List.length (Decidable.not_not.1 Z);rw[(n0 y).length_eq,(n0 z).length_eq]at e;rw[e];exact Y z (uA X)
end Go.Proofs.YtjjbhjnpeenbkaaGreatDoor
namespace Go.Proofs.YtjjbhjnpeenbkaaGreatDoor
open Go Go.PS Go.Proofs
set_option maxRecDepth 100000
attribute [local irreducible] ao wpG ah ax
theorem vq {l m:List Int}{n:Nat}(h:n<l.length):at0 (l++m) n=at0 l n:=by
 rw[at0,at0,uK,qZ h]
theorem BL (r:List Int)(l:List Arc){e m:Nat}(h:e<=m):∃x,aX r l m=aX r l e++x:=by
 refine⟨((l.drop e).take (m-e)).flatMap λ a=>aJ r a (bc r a),?_⟩;rw[aX,aX,qG,<-zE]
 congr 2
 obtain⟨k,rfl⟩:∃k,m=e+k:=⟨m-e,xA⟩;rw[List.take_add,Ce]
theorem JK {r:List Int}{l:List Arc}{e:Nat}{a:Arc}(h:l[e]? =some a):bK r l (e+1)=bK r l e++dF (ba r (aX r l e).length a) (bc r a+1):=by
 rw[bK,b8,pi,h];rfl
theorem KN (r:List Int)(Z:Nat)(a:Arc):at0 (ba r Z a) ((0:Nat):Int)=a.1:=rfl
theorem KP {r:List Int}{Z:Nat}{a:Arc}{j:Nat}(h:j<bc r a):at0 (ba r Z a) ((j+1:Nat):Int)=((Z+j:Nat):Int):=by
 rw[ba,vq (by rw[ot];omega),at0,uK,eH,jQ];simp[h]
theorem KO (r:List Int)(Z:Nat)(a:Arc):at0 (ba r Z a) ((bc r a+1:Nat):Int)=a.2:=by
 rw[at0,uK,ba,qL (by rw[ot];exact uI _),ot,jK];rfl
namespace Built
variable {g:Gr}{r:List Int}
theorem chain_at (b:Built g r){e j:Nat}{a:Arc}(X:g.2[e]? =some a)(K:j<=bc r a+1):
  0<=at0 (ba r (aX r g.2 e).length a) j/\at0 (ba r (aX r g.2 e).length a) j<(aX r g.2 g.2.length).length/\at0 (aX r g.2 g.2.length) (at0 (ba r (aX r g.2 e).length a) j)=at0 r a.1+j:=by
 have O:=(uB.1 X).1;have V:=b.ends X;have L:=b.gap e a X;have J:=b.len;have N:=b.all_ge;obtain⟨x,S⟩:=BL r g.2 (show 0<=g.2.length by omega);have R:aX r g.2 0=r:=by simp[aX]
 rw[R]at S;have h:∀v:Int,0<=v->v<g.1->at0 (aX r g.2 g.2.length) v=at0 r v:=λ v Q Y=>by
  obtain⟨n,rfl⟩:∃n:Nat,v=n:=⟨v.toNat,xA⟩;rw[S,vq xA]
 rcases qO j with rfl|Q
 ·rw[KN,h _ V.1 V.2.1];omega
 ·obtain⟨j,rfl⟩:∃i,j=i+1:=⟨j-1,xA⟩;rcases uD j (bc r a)with Y|Y
  ·rw[KP Y];obtain⟨y,T⟩:=BL r g.2 (show e+1<=g.2.length by omega);rw[o8 X]at T;have Z:=gL List.length T;simp only[uH,nC]at Z;refine⟨xA,xA,?_⟩;rw[T,vq (by rw[uH,nC];omega),at0,uK,qL xA,Ce];simp only[aJ,uJ,yZ Y,qB,yN];omega
  ·have U:j=bc r a:=xA;subst U;rw[KO,h _ V.2.2.1 V.2.2.2];have M:(bc r a:Int)=at0 r a.2-at0 r a.1-1:=by rw[bc];omega
   omega
end Built
end Go.Proofs.YtjjbhjnpeenbkaaGreatDoor
namespace Go.Proofs.YtjjbhjnpeenbkaaGreatDoor
open Go Go.PS Go.Proofs
set_option maxRecDepth 100000
attribute [local irreducible] ao wpG ah ax
theorem Mf (m:List (Int×Int))(k v u:Int):ct (iB m k v) u=if k=u then v else ct m u:=by
 induction m with
 |nil=>simp only[iB,ct]
 |cons p m Y=>
  obtain⟨a,b⟩:=p;simp only[iB];by_cases h:a=k
  ·rw[if_pos h];simp only[ct];by_cases Z:k=u
   ·rw[if_pos Z,if_pos Z]
   ·rw[if_neg Z,if_neg Z,if_neg (by rw[h];exact Z)]
  ·rw[if_neg h];simp only[ct,Y];by_cases Z:a=u
   ·rw[if_pos Z,if_neg xA];simp[Z]
   ·rw[if_neg Z];simp[Z]
def kn (m:List (Int×Int))(y:List Int)(g:Nat->Int):Nat->List (Int×Int)
 |0=>m
 |k+1=>iB (kn m y g k) (at0 y k) (g k)
def eE (h:Nat->Nat->Int)(ls:List (List Int)):Nat->List (Int×Int)
 |0=>[]
 |i+1=>kn (eE h ls i) ((ls[i]?).getD []) (h i) (((ls[i]?).getD []).length)
def plM (ls:List (List Int)):List (Int×Int):=eE (λ _ k=>k) ls ls.length
def lyM (ls:List (List Int)):List (Int×Int):=eE (λ i _=>i) ls ls.length
theorem rz :∀{y:List Int} {k:Nat} {v:Int},y.Nodup->y[k]? =some v->y.idxOf v=k
 |[],k,v,_,h=>by simp at h
 |a::y,0,v,_,h=>by simp at h;subst h;simp
 |a::y,k+1,v,U,h=>by
  have Z:=qI.1 U;have X:y[k]? =some v:=by simpa using h
  have Y:a≠v:=λ e=>Z.1 (e▸uA X)
  have T:=rz Z.2 X;have V:(a==v)=false:=by simpa using Y
  simp[List.idxOf_cons,V,T]
theorem Et (m:List (Int×Int))(y:List Int)(g:Nat->Int)(u:Int):∀k,k<=y.length->y.Nodup->ct (kn m y g k) u=if u∈y.take k then g (y.idxOf u)else ct m u
 |0,_,_=>by simp[kn]
 |k+1,h,V=>by
  have X:=aK (r:=y) (i:=k) xA;have U:y.idxOf (at0 y k)=k:=rz V X;rw[kn,Mf,Et m y g u k xA V,aM X];simp only[yP,uX];by_cases c:at0 y k=u
  ·rw[if_pos c,if_pos (.inr c.symm),<-c,U]
  ·rw[if_neg c];by_cases Z:u∈y.take k
   ·rw[if_pos Z,if_pos (.inl Z)]
   ·rw[if_neg Z,if_neg (by rintro(Y|Y);exact Z Y;exact c Y.symm)]
theorem wE (h:Nat->Nat->Int)(ls:List (List Int))(T:ls.flatten.Nodup)(u:Int):∀i,i<=ls.length->(∀k y,k<i->ls[k]? =some y->u∈y->ct (eE h ls i) u=h k (y.idxOf u))/\(u∉(ls.take i).flatten->ct (eE h ls i) u=0)
 |0,_=>⟨λ k y O=>xA,λ _=>rfl⟩
 |i+1,H=>by
  obtain⟨y,V⟩:=ak (l:=ls) (k:=i) xA;obtain⟨K,J⟩:=wE h ls T u i xA;have U:∀z,z∈ls->z.Nodup:=λ z X=>(jO.1 T).1 z X
  have S:=U y (uA V);have N:=Et (eE h ls i) y (h i) u y.length (uI _) S;rw[yE]at N;have I:eE h ls (i+1)=kn (eE h ls i) y (h i) y.length:=by rw[eE,V];rfl
  rw[I,N];refine⟨λ k z O X Y=>?_,λ Y=>?_⟩
  ·rcases qP.1 O with R|rfl
   ·have Q:=jB.1 (jO.1 T).2 k i (uB.1 X).1 (uB.1 V).1 R;have M:=(uB.1 X).2;have L:=(uB.1 V).2;rw[M,L]at Q;rw[if_neg (λ Z=>Q u Y u Z rfl)];exact K k z R X Y
   ·rw[V]at X;cases X;rw[if_pos Y]
  ·rw[aM V,Am,yP]at Y;rw[if_neg (λ Z=>Y (.inr (by simpa using Z)))];exact J λ Z=>Y (.inl Z)
theorem Pq (a:Lv)(L:a.2.1.length<=1000)(S:∀y,y∈a.2.1->y.length<=1000):ax Tryz.prog 251 [.d (lvD a)] [(2000, .dead),(2001, .dead)] (.tup [.mp 2000, .mp 2001]) [(2000, .imap (plM a.2.1)),(2001, .imap (lyM a.2.1))]:=by
 obtain⟨n,Z,U,T⟩:=a;dsimp only at L S;refine kM Tryz.func251 ?_;intro B X H;refine ac kO aa aa ?_;refine aq (λ(i:Nat)=>i<=Z.length) (λ i=>[(1, .ptr 1 0 0 0),(2, .mp 8),(3, .mp 9),(11, .d (am Z)),(12, .int Z.length),(13, .int i)]) (λ i=>[(1, .cells [.int n, .d (am Z), .d (aw U), .d (am T)]),(8, .imap (eE (λ _ k=>k) Z i)),(9, .imap (eE (λ i _=>i) Z i))]) (λ i=>Z.length-i) 0 ?_ ?_ ?_
 ·exact uF _
 ·exact kN (ae @eE.eq_1) []
 ·intro i J;rcases uD i Z.length with V|N
  ·obtain⟨y,h⟩:=ak V;have K:=S y (uA h);have R:eE (λ _ k=>(k:Int)) Z (i+1)=kn (eE (λ _ k=>(k:Int)) Z i) y (λ k=>(k:Int)) y.length:=by rw[eE,h];rfl
   have Q:eE (λ i _=>(i:Int)) Z (i+1)=kn (eE (λ i _=>(i:Int)) Z i) y (λ _=>(i:Int)) y.length:=by rw[eE,h];rfl
   refine ac kO (ae h) aa ?_;refine aq (λ(k:Nat)=>k<=y.length) (λ k=>[(1, .ptr 1 0 0 0),(2, .mp 8),(3, .mp 9),(4, .int i),(11, .d (am Z)),(12, .int Z.length),(13, .int i),(18, .d (aj y)),(19, .int y.length),(20, .int k)]) (λ k=>[(1, .cells [.int n, .d (am Z), .d (aw U), .d (am T)]),(8, .imap (kn (eE (λ _ k=>k) Z i) y (λ k=>(k:Int)) k)),(9, .imap (kn (eE (λ i _=>i) Z i) y (λ _=>(i:Int)) k))]) (λ k=>y.length-k) 0 ?_ ?_ ?_
   ·exact uF _
   ·exact kN (ae @kn.eq_1) []
   ·intro k I;rcases uD k y.length with Y|M
    ·have O:=aK Y;refine ac kO (ae O) aa ?_;refine⟨k+1,?_,kN (ae @kn.eq_1) [],?_⟩
     ·omega
     ·omega
    ·have:k=y.length:=xA;subst this;refine ac kO aa aa ?_;refine⟨i+1,?_,kN (ai R Q) [],?_⟩
     ·omega
     ·omega
  ·have:i=Z.length:=xA;subst this;refine ac kP aa aa ?_;refine kR aa [(2000,8),(2001,9)] [(2, .mp 2000),(3, .mp 2001)] [(2000, .imap (plM Z)),(2001, .imap (lyM Z))] ?_;refine aV ?_;exact⟨⟨_,rfl,rfl,rfl,trivial⟩,uM.2 ⟨rfl,uM.2 ⟨rfl,yB _⟩⟩⟩
def dJ (ls:List (List Int))(v:Int)(r p:Nat):Prop:=∃y,ls[r]? =some y/\y[p]? =some v
theorem Fk {ls:List (List Int)}{v:Int}(h:v∈ls.flatten):∃r p,dJ ls v r p:=by
 obtain⟨y,V,X⟩:=zX.1 h;obtain⟨r,Y⟩:=qA V;obtain⟨p,Z⟩:=qA X;exact⟨r,p,y,Y,Z⟩
theorem dJ.mem {ls:List (List Int)}{v:Int}{r p:Nat}(h:dJ ls v r p):v∈ls.flatten:=by
 obtain⟨y,Z,Y⟩:=h;exact zX.2 ⟨y,uA Z,uA Y⟩
theorem dJ.idx {ls:List (List Int)}(Y:ls.flatten.Nodup){v:Int}{r p:Nat}{y:List Int}(X:ls[r]? =some y)(h:y[p]? =some v):y.idxOf v=p:=by
 have Z:=(jO.1 Y).1 y (uA X);exact rz Z h
theorem dJ.layer {ls:List (List Int)}(O:ls.flatten.Nodup){v:Int}{r p Z N:Nat}(h:dJ ls v r p)(S:dJ ls v Z N):r=Z:=by
 obtain⟨y,R,V⟩:=h;obtain⟨z,Q,U⟩:=S;have Y:=uB.1 R;have X:=uB.1 Q;have T:=(jO.1 O).2;rcases zP r Z with h|h|h
 ·have:=jB.1 T r Z Y.1 X.1 h;rw[Y.2,X.2]at this;exact absurd rfl (this v (uA V) v (uA U))
 ·exact h
 ·have:=jB.1 T Z r X.1 Y.1 h;rw[Y.2,X.2]at this;exact absurd rfl (this v (uA U) v (uA V))
theorem dJ.ly {ls:List (List Int)}(X:ls.flatten.Nodup){v:Int}{r p:Nat}(h:dJ ls v r p):ct (lyM ls) v=r:=by
 obtain⟨y,Z,Y⟩:=h;exact(wE _ ls X v ls.length (uI _)).1 r y (uB.1 Z).1 Z (uA Y)
theorem dJ.pl {ls:List (List Int)}(X:ls.flatten.Nodup){v:Int}{r p:Nat}(h:dJ ls v r p):ct (plM ls) v=p:=by
 obtain⟨y,Z,Y⟩:=h;rw[plM,(wE _ ls X v ls.length (uI _)).1 r y (uB.1 Z).1 Z (uA Y),dJ.idx X Z Y]
theorem dJ.lay {ls:List (List Int)}(Q:ls.flatten.Nodup){v:Int}{r p:Nat}(h:dJ ls v r p):bz ls v=r:=by
 have Z:=lT.2 h.mem;have S:=h;obtain⟨y,M,L⟩:=h;rw[bz]at Z|-;cases T:ls.findIdx? (λ y=>y.any λ x=>decide (x=v))with
 |none=>rw[T]at Z;exact absurd Z xC
 |some k=>
  have R:=jY.1 T;obtain⟨Y,X,_⟩:=R;obtain⟨x,O,U⟩:=gW.1 X;have:x=v:=by simpa using U
  subst this;obtain⟨N,V⟩:=qA O;have:=dJ.layer Q S (⟨ls[k],uT Y,V⟩:dJ ls x k N);rw[this];rfl
structure Joins (ls:List (List Int))(x:Arc)(r p q:Nat):Prop where
 up:dJ ls x.1 r p
 dn:dJ ls x.2 (r+1) q
theorem lz {a:Lv}(h:aH a=true):a.2.1.flatten.Nodup:=by
 obtain⟨_,_,Y⟩:=oX h;obtain⟨_,_,Z,_⟩:=p7 Y;exact(ms.1 Z).2
theorem zw {a:Lv}(h:aH a=true){k:Nat}{x:Arc}(Z:a.2.2.1[k]? =some x):∃r p q,Joins a.2.1 x r p q:=by
 have N:=lz h;obtain⟨b,O,G⟩:=oX h;obtain⟨_,_,hg,M⟩:=p7 G;have S:a.2.2.1=bK (cd a) (bT a).2 (bT a).2.length:=gL (λ x:Lv=>x.2.2.1) O
 have T:∀m,m<=(bT a).2.length->∀x,x∈bK (cd a) (bT a).2 m->∃e c j,(bT a).2[e]? =some c/\j<bc (cd a) c+1/\x=nG (ba (cd a) (aX (cd a) (bT a).2 e).length c) j:=by
  intro m
  induction m with
  |zero=>intro _ x Z;simp[bK,b8]at Z
  |succ m F=>
   intro O x Z;obtain⟨c,X⟩:=ak (l:=(bT a).2) (k:=m) xA;rw[JK X,yP]at Z;rcases Z with Z|Z
   ·exact F xA x Z
   ·simp only[dF,uR,yD]at Z;obtain⟨j,Q,rfl⟩:=Z;exact⟨m,c,j,X,Q,rfl⟩
 obtain⟨e,c,j,X,Q,rfl⟩:=T _ (uI _) x (S▸uA Z);obtain⟨L,K,C⟩:=b.chain_at X (j:=j) xA;obtain⟨J,I,B⟩:=b.chain_at X (j:=j+1) xA;rw[nG];generalize at0 (ba (cd a) (aX (cd a) (bT a).2 e).length c) j=u at L K C|-;generalize at0 (ba (cd a) (aX (cd a) (bT a).2 e).length c) ((j+1:Nat):Int)=v at J I B|-;have Y:∀u:Int,0<=u->u<(aX (cd a) (bT a).2 (bT a).2.length).length->bz a.2.1 u=at0 (aX (cd a) (bT a).2 (bT a).2.length) u:=by
  intro u h0 h1;have hl:(aX (cd a) (bT a).2 (bT a).2.length).length=tot a.2.1:=by rw[M,kp]
  obtain⟨n,rfl⟩:∃n:Nat,u=n:=⟨u.toNat,xA⟩;have:=sq (c:=tot a.2.1) (v:=n) xA a.2.1;rw[<-M,aK xA,yM]at this;exact this.symm
 have A:=Y u L K;have z:=Y v J I;have R:=b.rk c.1.toNat;have H:=b.ends X;rw[show((c.1.toNat:Nat):Int)=c.1 by omega]at R;obtain⟨r,p,V⟩:=Fk (lT.1 (show 0<=bz a.2.1 u by omega));obtain⟨E,q,U⟩:=Fk (lT.1 (show 0<=bz a.2.1 v by omega));have s:=V.lay N;have e4:=U.lay N;have:E=r+1:=xA;subst this;exact⟨r,p,q,V,U⟩
def j9 (ls:List (List Int))(i f:Int)(p:Nat)(x:Arc):List Int:=
 if ct (lyM ls) x.1=i/\ct (lyM ls) x.2=f then(if ct (plM ls) x.1=p then[ct (plM ls) x.2]else[])
 else if ct (lyM ls) x.2=i/\ct (lyM ls) x.1=f then(if ct (plM ls) x.2=p then[ct (plM ls) x.1]else[])else[]
def iq (ls:List (List Int))(Z:List Arc)(i f:Int)(k p:Nat):List Int:=(Z.take k).flatMap (j9 ls i f p)
theorem DT {ls:List (List Int)}{Z:List Arc}{i f:Int}{k:Nat}{x:Arc}(h:Z[k]? =some x)(p:Nat):iq ls Z i f (k+1) p=iq ls Z i f k p++j9 ls i f p x:=by
 simp[iq,aM h]
theorem Lr (ls:List (List Int))(i f:Int)(p:Nat)(x:Arc):(j9 ls i f p x).length<=1:=by
 unfold j9;split
 ·split<;>simp
 ·split
  ·split<;>simp
  ·simp
theorem pE (ls:List (List Int))(Z:List Arc)(i f:Int)(p:Nat):∀k,(iq ls Z i f k p).length<=k
 |0=>by simp[iq]
 |k+1=>by
  have X:=pE ls Z i f p k;rcases uD k Z.length with h|h
  ·obtain⟨x,Y⟩:=ak h;have:=Lr ls i f p x;rw[DT Y,uH];omega
  ·rw[iq,uE xA];rw[iq,uE xA]at X;omega
def cj (ls:List (List Int))(Z:List Arc)(i f:Int)(n:Nat):List (List Int):=(List.range n).map (iq ls Z i f Z.length)
theorem Ls (a:Lv)(i:Nat)(f:Int)(y:List Int)(h:aH a=true)(O:a.2.1[i]? =some y):ah Tryz.prog 221 [lvD a, .int i, .int f] (am (cj a.2.1 a.2.2.1 i f y.length)):=by
 have G:=lz h;have hj:=λ k x Q=>zw h (k:=k) (x:=x) Q
 obtain⟨s1,s2,s3⟩:=kh h;obtain⟨t1,t2⟩:=cF h;have hp:=Pq a xA (λ y O=>by have:=cV O;omega);have C:=cV (uA O);have hil:i<a.2.1.length:=(uB.1 O).1;obtain⟨n,ls,V,cs⟩:=a;dsimp only at*;obtain⟨N,hN⟩:∃N,N=y.length:=⟨_,rfl⟩;rw[<-hN]at C|-;refine kE Tryz.func221 ?_;intro hat B X w0;refine ac kO (ai O hN.symm) (ae (dM [(2000,914),(2001,915)] hp)) ?_;refine aC _ (rp 1 23 1 N rfl (λ i hi=>by simp(disch:=omega) only[go_sem,simprocAttr,rT,iX]) xC xC) ?_;refine dR (λ(k:Nat)=>k<=V.length) (λ k=>[(1, .int i),(2, .int f),(3, .ptr 3 0 0 0),(7, .mp 914),(8, .mp 915),(9, .ref 23 1 0 N N),(25, .d (aw V)),(26, .int V.length),(27, .int k)]) (λ k=>[⟨1,23,1,N,λ p=>(iq ls V i f k p).map D.int⟩]) (λ k=>[(3, .cells [.int n, .d (am ls), .d (aw V), .d (am cs)]),(914, .imap (plM ls)),(915, .imap (lyM ls))]) (λ k=>V.length-k) 0 ?_ ?_ ?_
 ·exact uF _
 ·refine kF aa [] [] ?_;exact cK (av @iq.eq_1 @yQ.{0} @kI.{0,0})
 ·intro k hk;rcases uD k V.length with E|hge
  ·obtain⟨x,Q⟩:=ak E;obtain⟨r,p,q,R,T⟩:=hj k x Q;have M:=R.ly G;have L:=T.ly G;have K:=R.pl G;have J:=T.pl G;have S:=DT (ls:=ls) (i:=i) (f:=f) Q;by_cases s:r=i/\((r+1:Nat):Int)=f
   ·obtain⟨rfl,U⟩:=s;have hpN:p<N:=by
     obtain⟨z,H,A⟩:=R;rw[O]at H;cases H;rw[hN];exact(uB.1 A).1
    have I:∀Y,j9 ls r f Y x=if Y=p then[(q:Int)]else[]:=λ Y=>by
     rw[j9,M,L,K,J,if_pos ⟨rfl,U⟩];by_cases c:Y=p
     ·rw[if_pos xA,if_pos c]
     ·rw[if_neg xA,if_neg c]
    have F:=pE ls V r f p k;refine aC _ (jb _ _ [3,914,915,23] 23 p 900 1 1 N (by first|rfl|(simp(disch:=omega) only[go_sem,simprocAttr];done)|(simp(disch:=omega) only[go_sem,simprocAttr];rfl)) (by first|(simp(disch:=omega) only[go_sem,simprocAttr];done)|(simp(disch:=omega) only[go_sem,simprocAttr];rfl)) (by first|(simp(disch:=omega) only[go_sem,simprocAttr];done)|(simp(disch:=omega) only[go_sem,simprocAttr];rfl)) (λ i hi Z=>by simp(disch:=omega) only[go_sem,simprocAttr,Z];(repeat' split)<;>exact .ref _ _ _ _ _ ⟨by simp(disch:=omega) only[go_sem,simprocAttr,Z],by simp(disch:=omega) only[go_sem,simprocAttr,Z]⟩) (by(repeat' first|refine iS ?_|exact iT (ids:=[3,914,915,23]) rfl rfl (uQ rfl)|refine iR ?_|refine iU ?_|refine iP ?_|refine iV ?_|refine iW ?_|refine iQ (by dsimp only;omega) (by dsimp only;omega) xA xA (uQ rfl) ?_);done) rfl rfl rfl) ?_;refine ac kO (bj Q M L K J U @yE.{0} @aA) aa ?_;refine⟨k+1,?_,kF aa [(fid 1 p,63)] [] ?_,?_⟩
    ·omega
    ·exact fG (bj S I @uO.{0,0} @uH.{0} @uC.{0,0} @uV.{0} @uU.{0} (ai @yS.{0} @aA)) p
    ·omega
   ·by_cases U:r+1=i/\(r:Int)=f
    ·obtain⟨U,b⟩:=U;have c4:¬(r:Int)=i:=xA;have c5:((r+1:Nat):Int)=i:=xA;have hqN:q<N:=by
      obtain⟨z,H,A⟩:=T;rw[U,O]at H;cases H;rw[hN];exact(uB.1 A).1
     have I:∀Y,j9 ls i f Y x=if Y=q then[(p:Int)]else[]:=λ Y=>by
      rw[j9,M,L,K,J,if_neg (λ h=>c4 h.1),if_pos ⟨c5,b⟩];by_cases c:Y=q
      ·rw[if_pos xA,if_pos c]
      ·rw[if_neg xA,if_neg c]
     have F:=pE ls V i f q k;refine aC _ (jb _ _ [3,914,915,23] 23 q 900 1 1 N (by first|rfl|(simp(disch:=omega) only[go_sem,simprocAttr];done)|(simp(disch:=omega) only[go_sem,simprocAttr];rfl)) (by first|(simp(disch:=omega) only[go_sem,simprocAttr];done)|(simp(disch:=omega) only[go_sem,simprocAttr];rfl)) (by first|(simp(disch:=omega) only[go_sem,simprocAttr];done)|(simp(disch:=omega) only[go_sem,simprocAttr];rfl)) (λ i hi Z=>by simp(disch:=omega) only[go_sem,simprocAttr,Z];(repeat' split)<;>exact .ref _ _ _ _ _ ⟨by simp(disch:=omega) only[go_sem,simprocAttr,Z],by simp(disch:=omega) only[go_sem,simprocAttr,Z]⟩) (by(repeat' first|refine iS ?_|exact iT (ids:=[3,914,915,23]) rfl rfl (uQ rfl)|refine iR ?_|refine iU ?_|refine iP ?_|refine iV ?_|refine iW ?_|refine iQ (by dsimp only;omega) (by dsimp only;omega) xA xA (uQ rfl) ?_);done) rfl rfl rfl) ?_;refine ac kO (bj Q M L K J b c4 (av c5 @yE.{0} @aA)) aa ?_;refine⟨k+1,?_,kF aa [(fid 1 q,97)] [] ?_,?_⟩
     ·omega
     ·exact fG (bj S I @uO.{0,0} @uH.{0} @uC.{0,0} @uV.{0} @uU.{0} (ai @yS.{0} @aA)) q
     ·omega
    ·have I:∀Y,j9 ls i f Y x=[]:=λ Y=>by
      rw[j9,M,L,K,J,if_neg (λ h=>s ⟨xA,h.2⟩),if_neg (λ h=>U ⟨xA,h.2⟩)]
     by_cases d1:(r:Int)=i<;>by_cases d2:((r+1:Nat):Int)=f<;>by_cases d3:((r+1:Nat):Int)=i<;>by_cases d4:(r:Int)=f
     all_goals try (exfalso;omega)
     all_goals
      refine ac kO (bj Q M L K J d1 d2 (ai d3 d4)) aa ?_;refine⟨k+1,?_,kF aa [] [] ?_,?_⟩
      ·omega
      ·exact cK (av S I @yS.{0})
      ·omega
  ·have:k=V.length:=xA;subst this
   try dsimp only
   refine aC _ (k6 _ _ _ _ ⟨cc rfl,cc rfl,(by(repeat' first|exact fmn|refine fmc ⟨⟨uQ rfl,uQ rfl,by dsimp only;omega⟩,?_⟩);done)⟩ rfl [3,914,915,23] rfl rfl rfl rfl) ?_;refine ac kO aa aa ?_;refine bZ (o:=23) rfl rfl xB ?_;rw[uE xB,cj,gU];rfl
def ed (q:List Int)(x:Int):Nat:=(q.filter λ y=>decide (y<x)).length
def eG :List Int->List Int->Nat
 |[],_=>0
 |x::p,q=>ed q x+eG p q
theorem IF (q:List Int)(x:Int):ed q x<=q.length:=jA _ _
theorem TG (q:List Int)(x y:Int):ed (q++[y]) x=ed q x+if y<x then 1 else 0:=by
 rw[ed,gO,uH,<-ed];by_cases h:y<x
 ·simp[h]
 ·simp[h]
theorem J5 (p q:List Int)(x:Int):eG (p++[x]) q=eG p q+ed q x:=by
 induction p with
 |nil=>simp[eG]
 |cons y p Z=>simp only[gK,eG,Z];omega
theorem vw (p q:List Int):eG p q<=p.length*q.length:=by
 induction p with
 |nil=>simp[eG]
 |cons y p Z=>
  have:=IF q y;simp only[eG,uV,qN];omega
theorem J6 (p q:List Int)(H:p.length<=1000)(L:q.length<=1000):ah Tryz.prog 222 [aj p,aj q] (.int (eG p q)):=by
 have U:∀k,eG (p.take k) q<=1000*1000:=λ k=>by
  refine gY (vw _ _) (jW ?_ L);rw[yA];omega
 refine kE Tryz.func222 ?_;intro R B X G;refine ac kO aa aa ?_;refine aq (λ(i:Nat)=>i<=p.length) (λ i=>[(1, .d (aj q)),(5, .int (eG (p.take i) q)),(10, .d (aj p)),(11, .int p.length),(12, .int i)]) (λ i=>[]) (λ i=>p.length-i) 0 ?_ ?_ ?_
 ·exact uF _
 ·exact kN (ai @yQ.{0} @eG.eq_1) []
 ·intro i J;rcases uD i p.length with Y|N
  ·obtain⟨x,T⟩:=ak Y;have S:eG (p.take (i+1)) q=eG (p.take i) q+ed q x:=by rw[aM T,J5]
   have Q:=U i;have O:=U (i+1);refine ac kO (ae T) aa ?_;refine aq (λ(j:Nat)=>j<=q.length) (λ j=>[(1, .d (aj q)),(5, .int (eG (p.take i) q+ed (q.take j) x)),(7, .int x),(10, .d (aj p)),(11, .int p.length),(12, .int i),(16, .d (aj q)),(17, .int q.length),(18, .int j)]) (λ j=>[]) (λ j=>q.length-j) 0 ?_ ?_ ?_
   ·exact uF _
   ·exact kN (aQ @yQ.{0} @ed.eq_1 @kV.{0} @uU.{0} @jM) []
   ·intro j I;rcases uD j q.length with h|M
    ·obtain⟨y,V⟩:=ak h;have Z:ed (q.take (j+1)) x=ed (q.take j) x+if y<x then 1 else 0:=by rw[aM V,TG]
     have K:=IF (q.take j) x;rw[yA]at K;by_cases c:y<x
     ·rw[if_pos c]at Z;refine ac kO (ai V c) aa ?_;refine⟨j+1,?_,kN (aE Z @qQ @gN @kH) [],?_⟩
      ·omega
      ·omega
     ·rw[if_neg c]at Z;refine ac kO (ai V c) aa ?_;refine⟨j+1,?_,kN (ai Z @gX) [],?_⟩
      ·omega
      ·omega
    ·have:j=q.length:=xA;subst this
     try dsimp only
     rw[yE];refine ac kO aa aa ?_;refine⟨i+1,?_,kN (ai S @qQ) [],?_⟩
     ·omega
     ·omega
  ·have:i=p.length:=xA;subst this
   try dsimp only
   rw[yE];refine ac kO aa aa ?_;exact ap rfl
theorem rq (a:Lv)(i:Int):ah Tryz.prog 217 [lvD a, .int i] (.bool (decide (0<=i/\i<a.2.1.length))):=by
 obtain⟨n,U,Y,V⟩:=a;refine kE Tryz.func217 ?_;intro h B X T;have Z:=cO 0 1 h rfl rfl;rw[uC]at Z;dsimp only at Z;by_cases c:0<=i
 ·refine ac kO (ae c) aa ?_;refine ay ?_;simp[c]
 ·refine ac kO (ae c) aa ?_;refine ay ?_;simp[c]
def aF (l:List (List Int))(k:Nat):List Int:=(l[k]?).getD []
def io (at_:List (List Int))(a b:Nat):Int:=if a=b then 0 else eG (aF at_ a) (aF at_ b)
def eo (at_:List (List Int)):List (List Int):=(List.range at_.length).map λ a=>(List.range at_.length).map λ b=>io at_ a b
def dC (a:Lv)(i f:Int):Bool:=aH a&&decide (0<=i/\i<a.2.1.length)&&decide (0<=f/\f<a.2.1.length)&&decide (f=i-1\/f=i+1)
def ei (a:Lv)(i:Int):Nat:=((a.2.1[i.toNat]?).getD []).length
def bb (a:Lv)(i f:Int):List (List Int):=if dC a i f then eo (cj a.2.1 a.2.2.1 i f (ei a i))else[]
def gm (at_:List (List Int))(a k:Nat):List Int:=cb (λ b=>io at_ a b) at_.length k
theorem Jg (a:Lv)(i f:Nat)(hw:wide a)(O:aH a=true)(K:i<a.2.1.length)(hf:f<a.2.1.length)(T:(f:Int)=i-1\/(f:Int)=i+1):
  ah Tryz.prog 177 [lvD a, .int i, .int f] (am (eo (cj a.2.1 a.2.2.1 i f (ei a i)))):=by
 have h1:=oh a hw;rw[O]at h1;have h2:=rq a i;have h3:=rq a f;rw[uZ xA]at h2 h3;obtain⟨y,z⟩:=ak K;have h4:=Ls a i f y O z;have F:ei a i=y.length:=by rw[ei,uK,z];rfl
 rw[F];obtain⟨t1,t2⟩:=cF O;have hyl:=cV (uA z);obtain⟨s1,_,_⟩:=kh O;have hEl:(cj a.2.1 a.2.2.1 i f y.length).length=y.length:=by simp[cj]
 have M:∀p∈cj a.2.1 a.2.2.1 i f y.length,p.length<=1000:=by
  intro p hp;simp only[cj,uR,yD]at hp;obtain⟨k,_,rfl⟩:=hp;have:=pE a.2.1 a.2.2.1 i f k a.2.2.1.length;omega
 generalize cj a.2.1 a.2.2.1 i f y.length=E at*;obtain⟨N,hN⟩:∃N,N=E.length:=⟨_,rfl⟩;have hN5:N<=512:=xA;have H:∀(u v:Nat) p q,E[u]? =some p->E[v]? =some q->ah Tryz.prog 222 [aj p,aj q] (.int (eG p q)):=λ u v p q hu O=>J6 p q (M p (uA hu)) (M q (uA O))
 obtain⟨n,ls,s,cs⟩:=a;dsimp only at*;refine kE Tryz.func177 ?_;intro hat B X w0;rcases T with T|T
 all_goals
  refine ac kO (ai T hN.symm) (aE h1 h2 h3 h4) ?_;refine aC _ (rp 1 44 1 N rfl (λ i K=>by simp(disch:=omega) only[go_sem,simprocAttr,rT,iX]) xC xC) ?_;refine dR (λ(u:Nat)=>u<=N) (λ u=>[(3, .ptr 3 0 0 0),(7, .d (am E)),(8, .ref 44 1 0 N N),(46, .int N),(47, .int u)]) (λ u=>[⟨1,44,1,N,λ k=>if k<u then(gm E k N).map D.int else[]⟩]) (λ u=>[(3, .cells [.int n, .d (am ls), .d (aw s), .d (am cs)])]) (λ u=>N-u) 0 ?_ ?_ ?_
  ·exact uF _
  ·refine kF (ae hN.symm) [] [] ?_;exact cK (ae @zF)
  ·intro u hu;rcases uD u N with hlt|hge
   ·obtain⟨eu,R⟩:=ak (l:=E) (k:=u) xA;have hz:List.replicate N (D.int 0)=(gm E u 0).map D.int:=by rw[gm,oy,hN]
    have Z:¬u<u:=xA;refine aC _ (jb _ _ [3,44] 44 u 900 1 1 N (by first|rfl|(simp(disch:=omega) only[go_sem,simprocAttr,Z];done)|(simp(disch:=omega) only[go_sem,simprocAttr,Z];rfl)) (by first|(simp(disch:=omega) only[go_sem,simprocAttr,Z];done)|(simp(disch:=omega) only[go_sem,simprocAttr,Z];rfl)) (by first|(simp(disch:=omega) only[go_sem,simprocAttr,Z];done)|(simp(disch:=omega) only[go_sem,simprocAttr,Z];rfl)) (λ i K U=>by simp(disch:=omega) only[go_sem,simprocAttr,U,Z];(repeat' split)<;>exact .ref _ _ _ _ _ ⟨by simp(disch:=omega) only[go_sem,simprocAttr,U,Z],by simp(disch:=omega) only[go_sem,simprocAttr,U,Z]⟩) (by(repeat' first|refine iS ?_|exact iT (ids:=[3,44]) rfl rfl (uQ rfl)|refine iR ?_|refine iU ?_|refine iP ?_|refine iV ?_|refine iW ?_|refine iQ (by dsimp only;omega) (by dsimp only;omega) xA xA (uQ rfl) ?_);done) rfl rfl rfl) ?_;refine ac (cE (Nat.beq 54) (b:=true)) (ai hN.symm Z) aa ?_;refine dR (λ(b:Nat)=>b<=N) (λ b=>[(3, .ptr 3 0 0 0),(7, .d (am E)),(8, .ref 44 1 0 N N),(9, .int u),(46, .int N),(47, .int u),(57, .int N),(58, .int b)]) (λ b=>[⟨1,44,1,N,λ k=>if k<u then(gm E k N).map D.int else if k=u then(gm E u b).map D.int else[]⟩]) (λ b=>[(3, .cells [.int n, .d (am ls), .d (aw s), .d (am cs)])]) (λ b=>N-b) 0 ?_ ?_ ?_
    ·exact uF _
    ·refine kF (ae hN.symm) [(fid 1 u,54)] [] ?_;exact fG (bq hz @fV @gm.eq_1 @uC.{0,0} hN.symm Z) u
    ·intro b hb;have G:=fV (λ b=>io E u b) E.length b;rw[<-hN]at G;rcases uD b N with hlb|hgb
     ·obtain⟨eb,S⟩:=ak (l:=E) (k:=b) xA;have hg:(gm E u b)[b]? =some 0:=by rw[gm,k7 xA,if_neg xA]
      have Q:(gm E u b).set b (io E u b)=gm E u (b+1):=ox (g:=λ b=>io E u b) xA;have I:=H u b eu eb R S;have Y:(gm E u b).length=N:=by rw[gm,fV,hN]
      by_cases c:u=b
      ·have V:io E u b=0:=by rw[io,if_pos c]
       have L:gm E u (b+1)=gm E u b:=by
        rw[<-Q,V];refine yX λ v=>?_
        rw[qF];split
        ·rename_i A;subst A;rw[hg,if_pos xA]
        ·rfl
       have J:(u:Int)=b:=xA;refine ac kO (ai hN.symm J) aa ?_;refine⟨b+1,?_,kF aa [] [] ?_,?_⟩
       ·omega
       ·exact fG (ai L Z) u
       ·omega
      ·have V:io E u b=eG eu eb:=by rw[io,if_neg c,aF,aF,R,S];rfl
       have J:¬(u:Int)=b:=xA;rw[V]at Q;refine aC _ (jb _ _ [3,44] 44 u 900 1 1 N (by first|rfl|(simp(disch:=omega) only[go_sem,simprocAttr,Z,Y];done)|(simp(disch:=omega) only[go_sem,simprocAttr,Z,Y];rfl)) (by first|(simp(disch:=omega) only[go_sem,simprocAttr,Z,Y];done)|(simp(disch:=omega) only[go_sem,simprocAttr,Z,Y];rfl)) (by first|(simp(disch:=omega) only[go_sem,simprocAttr,Z,Y];done)|(simp(disch:=omega) only[go_sem,simprocAttr,Z,Y];rfl)) (λ i K U=>by simp(disch:=omega) only[go_sem,simprocAttr,U,Z,Y];(repeat' split)<;>exact .ref _ _ _ _ _ ⟨by simp(disch:=omega) only[go_sem,simprocAttr,U,Z,Y],by simp(disch:=omega) only[go_sem,simprocAttr,U,Z,Y]⟩) (by(repeat' first|refine iS ?_|exact iT (ids:=[3,44]) rfl rfl (uQ rfl)|refine iR ?_|refine iU ?_|refine iP ?_|refine iV ?_|refine iW ?_|refine iQ (by dsimp only;omega) (by dsimp only;omega) xA xA (uQ rfl) ?_);done) rfl rfl rfl) ?_;refine ac kO (bV hN.symm J R S hg Y Z) (ae I) ?_;refine⟨b+1,?_,kF aa [(fid 1 u,900)] [] ?_,?_⟩
       ·omega
       ·exact fG (bq @Q.symm @yW.{0,0} @yJ.{0} @uC.{0,0} Y Z) u
       ·omega
     ·have:b=N:=xA;subst this;have C:∀i,i≠u->((i<u+1)=(i<u)):=λ i h=>propext xA
      refine ac kO aa aa ?_;refine⟨u+1,?_,kF aa [] [] ?_,?_⟩
      ·omega
      ·exact fG (av Z C @Di) u
      ·omega
   ·have:u=N:=xA;subst this
    try dsimp only
    refine aC _ (k6 _ _ _ _ ⟨cc rfl,cc rfl,(by(repeat' first|exact fmn|refine fmc ⟨⟨uQ rfl,uQ rfl,by dsimp only;omega⟩,?_⟩);done)⟩ rfl [3,44] rfl rfl rfl rfl) ?_;refine ac kO aa aa ?_;refine bZ (o:=44) rfl rfl xB ?_;rw[uE xB,eo,<-hN,gU];refine yK λ k hk=>?_
    rw[if_pos (yD.1 hk),gm,<-hN,ov];rfl
theorem Jh (a:Lv)(i f:Int)(K:wide a)(T:dC a i f=false):ah Tryz.prog 177 [lvD a, .int i, .int f] (am []):=by
 have Y:=oh a K;have V:=rq a i;have U:=rq a f;rw[dC]at T;rcases R:aH a with _|_<;>rw[R]at Y T
 ·refine kE Tryz.func177 ?_;intro Z B X S;refine ac kO aa (ae Y) ?_;exact dH rfl
 ·by_cases Q:0<=i/\i<a.2.1.length
  ·rw[uZ Q]at V T;by_cases O:0<=f/\f<a.2.1.length
   ·rw[uZ O]at U T;have N:¬(f=i-1\/f=i+1):=by simpa using T
    have M:¬f=i-1:=λ h=>N (.inl h)
    have L:¬f=i+1:=λ h=>N (.inr h)
    obtain⟨J,I⟩:=cF R;refine kE Tryz.func177 ?_;intro Z B X S;refine ac kO (ai M L) (av Y V U) ?_;exact dH rfl
   ·rw[uW O]at U;refine kE Tryz.func177 ?_;intro Z B X S;refine ac kO aa (av Y V U) ?_;exact dH rfl
  ·rw[uW Q]at V;refine kE Tryz.func177 ?_;intro Z B X S;refine ac kO aa (av Y V U) ?_;exact dH rfl
theorem AI (a:Lv)(i f:Int)(Z:wide a):ah Tryz.prog 177 [lvD a, .int i, .int f] (am (bb a i f)):=by
 rcases h:dC a i f with _|_
 ·rw[bb,h,if_neg xC];exact Jh a i f Z h
 ·have e:bb a i f=eo (cj a.2.1 a.2.2.1 i f (ei a i)):=by rw[bb,h,if_pos rfl]
  rw[e];simp only[dC,uN,uG]at h;obtain⟨⟨⟨Y,V⟩,U⟩,X⟩:=h;obtain⟨i,rfl⟩:∃n:Nat,i=n:=⟨i.toNat,xA⟩;obtain⟨f,rfl⟩:∃n:Nat,f=n:=⟨f.toNat,xA⟩;exact Jg a i f Z Y xA xA X
def a8 (f:Nat->Int):Nat->Int
 |0=>0
 |k+1=>a8 f k+f k
theorem qh {f:Nat->Int}{c:Nat}:∀n,(∀k,k<n->0<=f k/\f k<=c)->0<=a8 f n/\a8 f n<=((n*c:Nat):Int)
 |0,_=>by simp[a8]
 |n+1,h=>by
  have Y:=qh n λ k Z=>h k xA
  have:=h n xA;rw[a8,qN];omega
theorem ux {f g:Nat->Int}:∀n,(∀k,k<n->f k=g k)->a8 f n=a8 g n
 |0,_=>rfl
 |n+1,h=>by rw[a8,a8,ux n λ k Z=>h k xA,h n xA]
def au (m:List (List Int))(b a:Nat):Int:=at0 (aF m b) a
def zt (m:List (List Int)):Int:=a8 (λ a=>a8 (λ b=>au m b a) a) m.length
structure Sq (m:List (List Int)):Prop where
 len:m.length<=600
 row:∀p,p∈m->p.length=m.length
 val:∀p,p∈m->∀x,x∈p->0<=x/\x<=1000000
theorem Sq.get {m:List (List Int)}(h:Sq m){b a:Nat}(X:b<m.length)(U:a<m.length):∃p,m[b]? =some p/\p.length=m.length/\p[a]? =some (au m b a)/\0<=au m b a/\au m b a<=1000000:=by
 obtain⟨p,Z⟩:=ak X;have V:=h.row p (uA Z);have Y:=aK (r:=p) (i:=a) xA;have e:au m b a=at0 p a:=by rw[au,aF,Z];rfl
 rw[<-e]at Y;exact⟨p,Z,V,Y,h.val p (uA Z) _ (uA Y)⟩
theorem Sq.nil :Sq []:=⟨xB,xB,xB⟩
theorem qv (a:Lv)(i f:Int):Sq (bb a i f):=by
 rw[bb];split
 ·rename_i h;simp only[dC,uN,uG]at h;obtain⟨⟨⟨X,S⟩,N⟩,M⟩:=h;obtain⟨L,K⟩:=cF X;obtain⟨s,_,_⟩:=kh X;obtain⟨y,T⟩:=ak (l:=a.2.1) (k:=i.toNat) xA;have O:=cV (uA T);have U:ei a i=y.length:=by rw[ei,T];rfl
  have Y:∀k,(aF (cj a.2.1 a.2.2.1 i f (ei a i)) k).length<=1000:=by
   intro k;rw[aF];cases R:(cj a.2.1 a.2.2.1 i f (ei a i))[k]? with
   |none=>simp
   |some p=>
    have Z:=uA R;simp only[cj,uR,yD]at Z;obtain⟨k,_,rfl⟩:=Z;have:=pE a.2.1 a.2.2.1 i f k a.2.2.1.length;simp only[yN];omega
  have V:(cj a.2.1 a.2.2.1 i f (ei a i)).length=y.length:=by simp[cj,U]
  generalize cj a.2.1 a.2.2.1 i f (ei a i)=E at*;refine⟨by simp[eo,V];omega,λ p Z=>?_,λ p Z x Q=>?_⟩
  ·simp only[eo,uR,yD]at Z;obtain⟨k,_,rfl⟩:=Z;simp[eo]
  ·simp only[eo,uR,yD]at Z;obtain⟨k,_,rfl⟩:=Z;obtain⟨j,_,rfl⟩:=uR.1 Q;rw[io];split
   ·omega
   ·have X:=vw (aF E k) (aF E j);have S:(aF E k).length*(aF E j).length<=1000*1000:=jW (Y k) (Y j);omega
 ·exact Sq.nil
def pU (a:Lv)(i:Int):Bool:=decide (¬(0<=i/\i<a.2.1.length)\/i=(a.2.1.length:Int)-1)
def du (a:Lv)(i:Int):Int:=if pU a i then 0 else zt (bb a i (i+1))
theorem IA {m:List (List Int)}(h:Sq m){x:Nat}(Y:x<m.length):∀k,k<=x->0<=a8 (λ b=>au m b x) k/\a8 (λ b=>au m b x) k<=600*1000000:=λ k U=>by
 have:=qh (f:=λ b=>au m b x) (c:=1000000) k λ b V=>by obtain⟨_,_,_,_,Z⟩:=h.get (b:=b) (a:=x) xA Y;exact Z
 have:=h.len;have X:k*1000000<=600*1000000:=yR _ xA;omega
theorem zu {m:List (List Int)}(h:Sq m):∀k,k<=m.length->0<=a8 (λ x=>a8 (λ b=>au m b x) x) k/\a8 (λ x=>a8 (λ b=>au m b x) x) k<=600*600000000:=λ k Y=>by
 have:=qh (f:=λ x=>a8 (λ b=>au m b x) x) (c:=600000000) k λ x X=>by have:=IA h (x:=x) xA x (uI _);omega
 have:=h.len;have Z:k*600000000<=600*600000000:=yR _ xA;omega
theorem I8 (a:Lv)(i:Int)(hw:wide a):ah Tryz.prog 169 [lvD a, .int i] (.int (du a i)):=by
 have U:=rq a i;have L:=AI a i (i+1) hw;rw[du,pU];by_cases Y:0<=i/\i<a.2.1.length
 ·rw[uZ Y]at U;by_cases V:i=(a.2.1.length:Int)-1
  ·rw[if_pos (by simp[V])];obtain⟨n,ls,J,I⟩:=a;dsimp only at Y V;refine kE Tryz.func169 ?_;intro h B X K;have T:=cO 0 1 h rfl rfl;rw[uC]at T;dsimp only at T;refine ac kO (ae V.symm) (ae U) ?_;exact ap rfl
  ·rw[if_neg (by simp;omega)];have Z:=qv a i (i+1);generalize bb a i (i+1)=m at L Z|-;have C:=Z.len;obtain⟨n,ls,J,I⟩:=a;dsimp only at Y V;refine kE Tryz.func169 ?_;intro h B X K;have T:=cO 0 1 h rfl rfl;rw[uC]at T;dsimp only at T;refine ac kO (ae V) (ai U L) ?_;refine aq (λ(x:Nat)=>x<=m.length) (λ x=>[(5, .int (a8 (λ x=>a8 (λ b=>au m b x) x) x)),(6, .d (am m)),(27, .int m.length),(28, .int x)]) (λ x=>[]) (λ x=>m.length-x) 0 ?_ ?_ ?_
   ·exact uF _
   ·exact kN (ae @a8.eq_1) []
   ·intro x hx;rcases uD x m.length with S|G
    ·have A:=zu Z x xA;have Q:=zu Z (x+1) xA;have R:a8 (λ x=>a8 (λ b=>au m b x) x) (x+1)=a8 (λ x=>a8 (λ b=>au m b x) x) x+a8 (λ b=>au m b x) x:=rfl;obtain⟨s,M⟩:∃s,a8 (λ x=>a8 (λ b=>au m b x) x) x=s:=⟨_,rfl⟩;rw[M]at A R;rw[R]at Q;refine ac kO aa aa ?_;refine aq (λ(y:Nat)=>y<=x) (λ y=>[(5, .int (s+a8 (λ b=>au m b x) y)),(6, .d (am m)),(7, .int x),(27, .int m.length),(28, .int x),(31, .int x),(32, .int y)]) (λ y=>[]) (λ y=>x-y) 0 ?_ ?_ ?_
     ·exact uF _
     ·exact kN (av M @a8.eq_1 @jM) []
     ·intro y hy;rcases uD y x with E|F
      ·obtain⟨p,z,N,O,q,hp2⟩:=Z.get (b:=y) (a:=x) xA S;have hi:=IA Z S y xA;have H:a8 (λ b=>au m b x) (y+1)=a8 (λ b=>au m b x) y+au m y x:=rfl;refine ac kO (av z O N) aa ?_;refine⟨y+1,?_,kN (ai H @kH) [],?_⟩
       ·omega
       ·omega
      ·have:y=x:=xA;subst this;refine ac kO aa aa ?_;refine⟨y+1,?_,kN (ae R) [],?_⟩
       ·omega
       ·omega
    ·have:x=m.length:=xA;subst this;refine ac kO aa aa ?_;exact ap rfl
 ·rw[uW Y]at U;rw[if_pos (by simp only[uG];exact .inl Y)];refine kE Tryz.func169 ?_;intro h B X K;refine ac kO aa (ae U) ?_;exact ap rfl
def bG (a:Lv):Int:=a8 (λ i=>du a i) a.2.1.length
theorem AF (a:Lv)(i:Int):0<=du a i/\du a i<=360000000000:=by
 rw[du];split
 ·omega
 ·have h:=qv a i (i+1);have:=zu h _ (uI _);rw[zt];omega
theorem AQ (a:Lv)(H:wide a)(E:a.2.1.length<=1000):ah Tryz.prog 105 [lvD a] (.int (bG a)):=by
 have L:=λ i=>I8 a i H
 have U:=AF a;have T:∀k,k<=a.2.1.length->0<=a8 (λ i=>du a i) k/\a8 (λ i=>du a i) k<=1000*360000000000:=λ k F=>by
  have:=qh (f:=λ i=>du a i) (c:=360000000000) k λ i _=>U i
  have O:k*360000000000<=1000*360000000000:=yR _ xA;omega
 rw[bG];generalize N:(λ i:Nat=>du a i)=Y at T|-;have h:∀i:Nat,ah Tryz.prog 169 [lvD a, .int i] (.int (Y i)):=λ i=>by rw[<-N];exact L i
 obtain⟨n,Z,S,R⟩:=a;dsimp only at*;refine kE Tryz.func105 ?_;intro M B X C;refine ac kO aa aa ?_;refine aq (λ(i:Nat)=>i<=Z.length) (λ i=>[(1, .ptr 1 0 0 0),(3, .int (a8 Y i)),(7, .int Z.length),(8, .int i)]) (λ i=>[(1, .cells [.int n, .d (am Z), .d (aw S), .d (am R)])]) (λ i=>Z.length-i) 0 ?_ ?_ ?_
 ·exact uF _
 ·exact kN (ae @a8.eq_1) []
 ·intro i J;rcases uD i Z.length with I|K
  ·have G:=T i J;have O:=T (i+1) xA;have Q:a8 Y (i+1)=a8 Y i+Y i:=rfl;have V:=h i;refine ac kO aa (ae V) ?_;refine⟨i+1,?_,kN (ae Q) [],?_⟩
   ·omega
   ·omega
  ·have:i=Z.length:=xA;subst this;refine ac kO aa aa ?_;exact ap rfl
end Go.Proofs.YtjjbhjnpeenbkaaGreatDoor
