/- Stable sorting: the symmetric merge, where one side is one element. -/
import Derived.Test.YtjjbhjnpeenbkaaGreatDoorStE
import Derived.Test.YtjjbhjnpeenbkaaGreatDoorPSMerge
set_option linter.unusedSimpArgs false
set_option linter.unusedVariables false
set_option maxHeartbeats 16000000
namespace Go.Proofs.YtjjbhjnpeenbkaaGreatDoor
open Go Go.PS Go.Proofs
open Go.Stb
set_option maxRecDepth 100000
attribute [local irreducible] Zab wpG Zaa Zaf
theorem Zkp {x:Int}(h:0<=x)(h2:x<=18446744073709551615):IntKind.u64.wrap x=x:=by
 simp[IntKind.wrap,IntKind.bits,IntKind.signed];omega
theorem ZiP {x:Int}(h:0<=x):x.fdiv (2^min 1 64)=x/2:=by
 rw[Cc _ (by decide)];rfl
def ZaP (P A Q:List Nat)(y:Nat)(k:Nat):List Nat:=P++A.take k++y::(A.drop k++Q)
theorem Zp4 {P A Q:List Nat}{y k:Nat}(hk:k<=A.length):(ZaP P A Q y k).length=P.length+A.length+1+Q.length:=by
 simp only[ZaP,uC,uV,uS,qP];omega
theorem Zp3 {P A Q:List Nat}{y k:Nat}(hk:k<=A.length):(ZaP P A Q y k)[P.length+k]? =some y:=by
 have:(P++A.take k).length=P.length+k:=by rw[uC,uS];omega
 rw[ZaP,<-this];exact ZgG _ _ _
theorem Zwz {P A Q:List Nat}{y k x:Nat}(hx:A[k]? =some x):(ZaP P A Q y k)[P.length+k+1]? =some x:=by
 have hk:=(uB.1 hx).1;have e:ZaP P A Q y k=(P++A.take k++[y])++x::(A.drop (k+1)++Q):=by rw[ZaP,ZfM hx];simp
 have:(P++A.take k++[y]).length=P.length+k+1:=by simp only[uC,uS,uV,uY];omega
 rw[e,<-this];exact ZgG _ _ _
theorem ZwA {P A Q:List Nat}{y k x:Nat}(hx:A[k]? =some x):(ZaP P A Q y (k+1))[P.length+k]? =some x:=by
 have hk:=(uB.1 hx).1;have e:ZaP P A Q y (k+1)=(P++A.take k)++x::(y::(A.drop (k+1)++Q)):=by rw[ZaP,ZaD hx];simp
 have:(P++A.take k).length=P.length+k:=by simp only[uC,uS];omega
 rw[e,<-this];exact ZgG _ _ _
theorem ZwB {P A Q:List Nat}{y k x:Nat}(hx:A[k]? =some x):((ZaP P A Q y k).set (P.length+k) x).set (P.length+k+1) y=ZaP P A Q y (k+1):=by
 have hk:=(uB.1 hx).1;have l1:(P++A.take k).length=P.length+k:=by simp only[uC,uS];omega
 have e:(ZaP P A Q y k).set (P.length+k) x=(P++A.take k++[x])++x::(A.drop (k+1)++Q):=by rw[ZaP,<-l1,Zgj,ZfM hx];simp
 have l2:(P++A.take k++[x]).length=P.length+k+1:=by simp only[uC,uS,uV,uY];omega
 rw[e,<-l2,Zgj,ZaP,ZaD hx];simp
theorem Zwy {P A Q:List Nat}{y k x:Nat}(hx:A[k]? =some x):((ZaP P A Q y (k+1)).set (P.length+k+1) x).set (P.length+k) y=ZaP P A Q y k:=by
 have hk:=(uB.1 hx).1;have l1:(P++A.take k).length=P.length+k:=by simp only[uC,uS];omega
 have l2:(P++A.take (k+1)).length=P.length+k+1:=by simp only[uC,uS];omega
 have e:(ZaP P A Q y (k+1)).set (P.length+k+1) x=(P++A.take k)++x::(x::(A.drop (k+1)++Q)):=by rw[ZaP,<-l2,Zgj,ZaD hx];simp
 rw[e,<-l1,Zgj,ZaP,ZfM hx];simp
theorem Zvd (v:Nat->Int)(p:Nat->List D)(g:Nat)(c:Nat->Nat->Int)(R:Nat->Nat->Prop)(hR:Ord R)(hcmp:∀j k,Zaa Tryz.prog g [elD v p j,elD v p k] (.int (c j k)))
  (P B Q T:List Nat)(x:Nat)(hBs:B.Pairwise R)(hb:∀z,z∈B->ZcX c R x z)(hne:∀z,z∈B->x≠z)(hT:T.Perm ([x]++B))(hTs:T.Pairwise R)(N:Nat)(hN:P.length+(1+B.length)+Q.length=N)(hN1:N<=1000000)(a m b:Int)
  (ha:a=P.length)(hm:m=(P.length+1:Nat))(hbb:b=(P.length+1+B.length:Nat)):
  Zaf Tryz.prog 281 [.ref 1000 2 0 N N, .int a, .int m, .int b, .d (.fn g [])] [(1000, .row 2 ((P++[x]++B++Q).map (elD v p)))] (.tup []) [(1000, .row 2 ((P++T++Q).map (elD v p)))]:=by
 subst ha hm hbb;have hrow0:P++[x]++B++Q=ZaP P B Q x 0:=by simp[ZaP]
 rw[hrow0];have hpl:∀k,k<=B.length->(ZaP P B Q x k).length=N:=λ k hk=>by rw[Zp4 hk];omega
 have hpa:∀k,k<=B.length->(ZaP P B Q x k)[P.length+k]? =some x:=λ k hk=>Zp3 hk
 have hpn:∀k z,B[k]? =some z->(ZaP P B Q x k)[P.length+k+1]? =some z:=λ k z=>Zwz
 have hpu:∀k z,B[k]? =some z->((ZaP P B Q x k).set (P.length+k) z).set (P.length+k+1) x=ZaP P B Q x (k+1):=λ k z=>ZwB
 have hp0:∀k z,B[k]? =some z->(ZaP P B Q x 0)[P.length+1+k]? =some z:=λ k z hz=>by
  have e:ZaP P B Q x 0=P++x::(B++Q):=by simp[ZaP]
  rw[e,yZ (by omega),show P.length+1+k-P.length=k+1 by omega,jW,qH (uB.1 hz).1,hz]
 have hend:∀i,i<=B.length->(∀z,0<i->B[i-1]? =some z->R z x)->(∀z,B[i]? =some z->R x z)->P++T++Q=ZaP P B Q x i:=λ i hi h1 h2=>by
  have h3:=Zl8 hR hi hBs h1 h2;have h4:(B.take i++x::B.drop i).Perm ([x]++B):=by
   refine zC.trans ?_;rw[yU];exact zH _
  have:T=B.take i++x::B.drop i:=ZgY hR (hT.trans h4.symm) hTs h3;rw[this,ZaP];simp
 generalize hA:P.length=A0 at*;generalize ZaP P B Q x=L at*;generalize P++T++Q=LT at*;have d1:((A0+1:Nat):Int)-(A0:Int)=1:=by omega
 refine kM Tryz.func281 ?_;intro B0 X w0;refine ZcQ ?_;have g0:=hpa (0) (uJ _);rw[gH]at g0;have l0:=hpl (0) (uJ _);refine kw1 kO (kc1 d1) kc0 ?_;refine Zai (λ(q:Nat×Nat)=>match q with|(i,j)=>i<=j/\j<=B.length/\(∀z,0<i->B[i-1]? =some z->R z x)/\(∀z,B[j]? =some z->R x z)) (λ(i,j)=>[(0, .ref 1000 2 0 N N),(1, .int A0),(4, .d (.fn g [])),(10, .int ((A0+1+i:Nat):Int)),(11, .int ((A0+1+j:Nat):Int))]) (λ(i,j)=>[(1000, .row 2 ((L 0).map (elD v p)))]) (λ(i,j)=>j-i) (0,B.length) ?_ ?_ ?_
 ·exact⟨uJ _,uH _,λ z h=>by omega,λ z hz=>by rw[uP (uH _)]at hz;cases hz⟩
 ·exact kN (kc1 @gH) []
 ·rintro⟨i,j⟩ ⟨hij,hj,hlo,hhi⟩;dsimp only at hij hj hlo hhi|-;rcases uF i j with hlt|hge
  ·obtain⟨h,hh⟩:∃h,h=(i+j)/2:=⟨_,rfl⟩;obtain⟨z,hz⟩:=Zad (l:=B) (k:=h) (by omega);have hzm:=uA hz;have c1:=hcmp z x;have g1:=hp0 h z hz;have w1:IntKind.u64.wrap (((A0+1+i:Nat):Int)+((A0+1+j:Nat):Int))=((A0+1+i:Nat):Int)+((A0+1+j:Nat):Int):=Zkp (by omega) (by omega);have w2:(((A0+1+i:Nat):Int)+((A0+1+j:Nat):Int)).fdiv (2^min 1 64)=((A0+1+h:Nat):Int):=by rw[ZiP (by omega)];omega
   by_cases cc:c z x<0
   ·repeat' first|refine ZbD rfl ?_|refine Za1 ?_|refine wR ?_|(refine rc (c1) rfl ?_ ?_;(· first|rfl|simp(disch:=omega) only[go_sem,simprocAttr,w1,w2,g1,g0,l0,cc]))|(refine ZbF rfl rfl (λ hc=>?_) (λ hc=>?_)<;>try simp only[hcL]at hc)|(refine ZbC _ rfl rfl (λ hc=>?_) (λ hc=>?_)<;>(try simp only[hcL]at hc)<;>try omega)|simp(disch:=omega) only[go_sem,simprocAttr,w1,w2,g1,g0,l0,cc]|apply And.intro|omega|decide+kernel
    refine⟨(h+1,j),?_,eL [] _ _ (by refine⟨?_,?_⟩<;>(repeat' first|exact fmn|refine fmc ⟨(by first|rfl|(simp(disch:=omega) only[go_sem,simprocAttr,inL,<-qI,jL];first|done|omega|(congr 1;done))),?_⟩);done),?_⟩
    ·exact⟨by omega,by omega,λ y _ hy=>by
      dsimp only at hy;rw[zY,hz,uZ]at hy;rw[<-hy];exact(hb z hzm).1 cc,hhi⟩
    ·dsimp only;omega
   ·have hxz:R x z:=by
     rcases hR.total x z (hne z hzm)with h1|h1
     ·exact h1
     ·exact absurd ((hb z hzm).2 h1) cc
    repeat' first|refine ZbD rfl ?_|refine Za1 ?_|refine wR ?_|(refine rc (c1) rfl ?_ ?_;(· first|rfl|simp(disch:=omega) only[go_sem,simprocAttr,w1,w2,g1,g0,l0,cc]))|(refine ZbF rfl rfl (λ hc=>?_) (λ hc=>?_)<;>try simp only[hcL]at hc)|(refine ZbC _ rfl rfl (λ hc=>?_) (λ hc=>?_)<;>(try simp only[hcL]at hc)<;>try omega)|simp(disch:=omega) only[go_sem,simprocAttr,w1,w2,g1,g0,l0,cc]|apply And.intro|omega|decide+kernel
    refine⟨(i,h),?_,kN kc0 [],?_⟩
    ·exact⟨by omega,by omega,hlo,λ y hy=>by
      dsimp only at hy;rw[hz,uZ]at hy;rw[<-hy];exact hxz⟩
    ·dsimp only;omega
  ·have:i=j:=by omega
   subst this;have hfin:=hend i hj hlo hhi;refine kw1 kO kc0 kc0 ?_;refine Zai (λ(k:Nat)=>k<=i) (λ k=>[(0, .ref 1000 2 0 N N),(10, .int ((A0+1+i:Nat):Int)),(13, .int ((A0+k:Nat):Int))]) (λ k=>[(1000, .row 2 ((L k).map (elD v p)))]) (λ k=>i-k) 0 ?_ ?_ ?_
   ·exact uJ _
   ·exact kN (kc1 @gH) []
   ·intro k hk;have e1:((A0+1+i:Nat):Int)-1=((A0+i:Nat):Int):=by omega
    rcases uF k i with hlk|hgk
    ·obtain⟨z,hz⟩:=Zad (l:=B) (k:=k) (by omega);have q1:=hpa (k) (by omega);have q2:=hpn k z hz;have q3:=hpu k z hz;have q4:=hpl (k) (by omega);have e2:((A0+k:Nat):Int)+1=((A0+k+1:Nat):Int):=by omega
     have q5:((L k).set (A0+k) z)[A0+k+1]? =some z:=by rw[qD,if_neg (by omega),q2]
     have q6:(((L k).map (elD v p)).set (A0+k) (elD v p z))[A0+k+1]? =some (elD v p z):=by rw[<-yR,uI,q5];rfl
     have q7:(((L k).map (elD v p)).set (A0+k) (elD v p z)).set (A0+k+1) (elD v p x)=(L (k+1)).map (elD v p):=by rw[<-q3,yR,yR]
     refine kw1 kO (kc8 e1 e2 q1 q2 q4 @yL.{0} q6 q7) kc0 ?_;refine⟨k+1,?_,kN (kc2 q7 @jL) [],?_⟩
     ·omega
     ·omega
    ·have:k=i:=by omega
     subst this;refine kw1 kO (kc1 e1) kc0 ?_;refine⟨_,Zbg.1 (kN (L:=[]) (M:=[(1000, .row 2 (LT.map (elD v p)))]) (kc1 hfin) []),?_⟩;exact⟨⟨[],rfl,trivial⟩,fmc ⟨rfl,fmn⟩⟩
theorem Zvf (v:Nat->Int)(p:Nat->List D)(g:Nat)(c:Nat->Nat->Int)(R:Nat->Nat->Prop)(hR:Ord R)(hcmp:∀j k,Zaa Tryz.prog g [elD v p j,elD v p k] (.int (c j k)))
  (P A Q T:List Nat)(y:Nat)(hA2:2<=A.length)(hAs:A.Pairwise R)(hb:∀z,z∈A->ZcX c R z y)(hne:∀z,z∈A->z≠y)(hT:T.Perm (A++[y]))(hTs:T.Pairwise R)(N:Nat)(hN:P.length+(A.length+1)+Q.length=N)(hN1:N<=1000000)(a m b:Int)
  (ha:a=P.length)(hm:m=(P.length+A.length:Nat))(hbb:b=(P.length+A.length+1:Nat)):
  Zaf Tryz.prog 281 [.ref 1000 2 0 N N, .int a, .int m, .int b, .d (.fn g [])] [(1000, .row 2 ((P++A++[y]++Q).map (elD v p)))] (.tup []) [(1000, .row 2 ((P++T++Q).map (elD v p)))]:=by
 subst ha hm hbb;have hrow0:P++A++[y]++Q=ZaP P A Q y A.length:=by simp[ZaP]
 rw[hrow0];have hpl:∀k,k<=A.length->(ZaP P A Q y k).length=N:=λ k hk=>by rw[Zp4 hk];omega
 have hpa:∀k,k<=A.length->(ZaP P A Q y k)[P.length+k]? =some y:=λ k hk=>Zp3 hk
 have hpn:∀k z,A[k]? =some z->(ZaP P A Q y (k+1))[P.length+k]? =some z:=λ k z=>ZwA
 have hpu:∀k z,A[k]? =some z->((ZaP P A Q y (k+1)).set (P.length+k+1) z).set (P.length+k) y=ZaP P A Q y k:=λ k z=>Zwy
 have hp0:∀k z,A[k]? =some z->(ZaP P A Q y A.length)[P.length+k]? =some z:=λ k z hz=>by
  have e:ZaP P A Q y A.length=P++(A++(y::Q)):=by simp[ZaP]
  rw[e,yZ (by omega),zV,qH (uB.1 hz).1,hz]
 have hend:∀i,i<=A.length->(∀z,0<i->A[i-1]? =some z->R z y)->(∀z,A[i]? =some z->R y z)->P++T++Q=ZaP P A Q y i:=λ i hi h1 h2=>by
  have h3:=Zl8 hR hi hAs h1 h2;have h4:(A.take i++y::A.drop i).Perm (A++[y]):=by
   refine zC.trans ?_;rw[yU];exact List.perm_append_comm (l₁:=[y]) (l₂:=A)
  have:T=A.take i++y::A.drop i:=ZgY hR (hT.trans h4.symm) hTs h3;rw[this,ZaP];simp
 generalize hA:P.length=A0 at*;generalize ZaP P A Q y=L at*;generalize P++T++Q=LT at*;have d1:((A0+A.length:Nat):Int)-(A0:Int)=A.length:=by omega
 have d2:((A0+A.length+1:Nat):Int)-((A0+A.length:Nat):Int)=1:=by omega
 have d3:¬((A.length:Int)=1):=by omega
 refine kM Tryz.func281 ?_;intro B0 X w0;refine ZcQ ?_;have g0:=hpa (A.length) (uH _);have l0:=hpl (A.length) (uH _);refine kw1 kO (kc3 d1 d2 d3) kc0 ?_;refine Zai (λ(q:Nat×Nat)=>match q with|(i,j)=>i<=j/\j<=A.length/\(∀z,0<i->A[i-1]? =some z->R z y)/\(∀z,A[j]? =some z->R y z)) (λ(i,j)=>[(0, .ref 1000 2 0 N N),(2, .int ((A0+A.length:Nat):Int)),(4, .d (.fn g [])),(14, .int ((A0+i:Nat):Int)),(15, .int ((A0+j:Nat):Int))]) (λ(i,j)=>[(1000, .row 2 ((L A.length).map (elD v p)))]) (λ(i,j)=>j-i) (0,A.length) ?_ ?_ ?_
 ·exact⟨uJ _,uH _,λ z h=>by omega,λ z hz=>by rw[uP (uH _)]at hz;cases hz⟩
 ·exact kN (kc1 @gH) []
 ·rintro⟨i,j⟩ ⟨hij,hj,hlo,hhi⟩;dsimp only at hij hj hlo hhi|-;rcases uF i j with hlt|hge
  ·obtain⟨h,hh⟩:∃h,h=(i+j)/2:=⟨_,rfl⟩;obtain⟨z,hz⟩:=Zad (l:=A) (k:=h) (by omega);have hzm:=uA hz;have c1:=hcmp y z;have g1:=hp0 h z hz;have w1:IntKind.u64.wrap (((A0+i:Nat):Int)+((A0+j:Nat):Int))=((A0+i:Nat):Int)+((A0+j:Nat):Int):=Zkp (by omega) (by omega);have w2:(((A0+i:Nat):Int)+((A0+j:Nat):Int)).fdiv (2^min 1 64)=((A0+h:Nat):Int):=by rw[ZiP (by omega)];omega
   by_cases cc:c y z<0
   ·repeat' first|refine ZbD rfl ?_|refine Za1 ?_|refine wR ?_|(refine rc (c1) rfl ?_ ?_;(· first|rfl|simp(disch:=omega) only[go_sem,simprocAttr,w1,w2,g1,g0,l0,cc]))|(refine ZbF rfl rfl (λ hc=>?_) (λ hc=>?_)<;>try simp only[hcL]at hc)|(refine ZbC _ rfl rfl (λ hc=>?_) (λ hc=>?_)<;>(try simp only[hcL]at hc)<;>try omega)|simp(disch:=omega) only[go_sem,simprocAttr,w1,w2,g1,g0,l0,cc]|apply And.intro|omega|decide+kernel
    refine⟨(i,h),?_,kN kc0 [],?_⟩
    ·exact⟨by omega,by omega,hlo,λ x hx=>by
      dsimp only at hx;rw[hz,uZ]at hx;rw[<-hx];exact(hb z hzm).1 cc⟩
    ·dsimp only;omega
   ·have hxz:R z y:=by
     rcases hR.total z y (hne z hzm)with h1|h1
     ·exact h1
     ·exact absurd ((hb z hzm).2 h1) cc
    repeat' first|refine ZbD rfl ?_|refine Za1 ?_|refine wR ?_|(refine rc (c1) rfl ?_ ?_;(· first|rfl|simp(disch:=omega) only[go_sem,simprocAttr,w1,w2,g1,g0,l0,cc]))|(refine ZbF rfl rfl (λ hc=>?_) (λ hc=>?_)<;>try simp only[hcL]at hc)|(refine ZbC _ rfl rfl (λ hc=>?_) (λ hc=>?_)<;>(try simp only[hcL]at hc)<;>try omega)|simp(disch:=omega) only[go_sem,simprocAttr,w1,w2,g1,g0,l0,cc]|apply And.intro|omega|decide+kernel
    refine⟨(h+1,j),?_,eL [] _ _ (by refine⟨?_,?_⟩<;>(repeat' first|exact fmn|refine fmc ⟨(by first|rfl|(simp(disch:=omega) only[go_sem,simprocAttr,inL,<-qI,jL];first|done|omega|(congr 1;done))),?_⟩);done),?_⟩
    ·exact⟨by omega,by omega,λ x _ hx=>by
      dsimp only at hx;rw[zY,hz,uZ]at hx;rw[<-hx];exact hxz,hhi⟩
    ·dsimp only;omega
  ·have:i=j:=by omega
   subst this;have hfin:=hend i hj hlo hhi;refine kw1 kO kc0 kc0 ?_;refine Zai (λ(k:Nat)=>i<=k/\k<=A.length) (λ k=>[(0, .ref 1000 2 0 N N),(14, .int ((A0+i:Nat):Int)),(17, .int ((A0+k:Nat):Int))]) (λ k=>[(1000, .row 2 ((L k).map (elD v p)))]) (λ k=>k) A.length ?_ ?_ ?_
   ·exact⟨hj,uH _⟩
   ·exact kN kc0 []
   ·rintro k ⟨hk1,hk2⟩;rcases uF i k with hlk|hgk
    ·obtain⟨k,rfl⟩:∃m,k=m+1:=⟨k-1,by omega⟩;obtain⟨z,hz⟩:=Zad (l:=A) (k:=k) (by omega);have q1:=hpa (k+1) (by omega);have q2:=hpn k z hz;have q3:=hpu k z hz;have q4:=hpl (k+1) (by omega);have e1:((A0+(k+1):Nat):Int)-1=((A0+k:Nat):Int):=by omega
     rw[<-jL]at q1 e1|-;have q5:((L (k+1)).set (A0+k+1) z)[A0+k]? =some z:=by rw[qD,if_neg (by omega),q2]
     have q6:(((L (k+1)).map (elD v p)).set (A0+k+1) (elD v p z))[A0+k]? =some (elD v p z):=by rw[<-yR,uI,q5];rfl
     have q7:(((L (k+1)).map (elD v p)).set (A0+k+1) (elD v p z)).set (A0+k) (elD v p y)=(L k).map (elD v p):=by rw[<-q3,yR,yR]
     refine kw1 kO (kc7 e1 q1 q2 q4 @yL.{0} q6 q7) kc0 ?_;refine⟨k,?_,kN (kc1 q7) [],?_⟩
     ·omega
     ·omega
    ·have:k=i:=by omega
     subst this;refine kw1 kO kc0 kc0 ?_;refine⟨_,Zbg.1 (kN (L:=[]) (M:=[(1000, .row 2 (LT.map (elD v p)))]) (kc1 hfin) []),?_⟩;exact⟨⟨[],rfl,trivial⟩,fmc ⟨rfl,fmn⟩⟩
def Zm4 (v:Nat->Int)(p:Nat->List D)(g:Nat)(c:Nat->Nat->Int)(R:Nat->Nat->Prop)(N:Nat)(P A B Q:List Nat):Prop:=
 ∀T:List Nat,0<A.length->0<B.length->A.Pairwise R->B.Pairwise R->(∀s,s∈A->∀z,z∈B->ZcX c R s z)->(A++B).Nodup->T.Perm (A++B)->T.Pairwise R->P.length+A.length+B.length+Q.length=N->
  ∀a m b:Int,a=P.length->m=(P.length+A.length:Nat)->b=(P.length+A.length+B.length:Nat)->
  Zaf Tryz.prog 281 [.ref 1000 2 0 N N, .int a, .int m, .int b, .d (.fn g [])] [(1000, .row 2 ((P++A++B++Q).map (elD v p)))] (.tup []) [(1000, .row 2 ((P++T++Q).map (elD v p)))]
theorem Zve (v:Nat->Int)(p:Nat->List D)(g:Nat)(c:Nat->Nat->Int)(R:Nat->Nat->Prop)(hR:Ord R)(hcmp:∀j k,Zaa Tryz.prog g [elD v p j,elD v p k] (.int (c j k)))(N:Nat)(hN1:N<=1000000)
  (P A B Q T:List Nat)(hA2:2<=A.length)(hB2:2<=B.length)(IH:∀P' A' B' Q',A'.length+B'.length<A.length+B.length->Zm4 v p g c R N P' A' B' Q')
  (hAs:A.Pairwise R)(hBs:B.Pairwise R)(hb:∀s,s∈A->∀z,z∈B->ZcX c R s z)(hnd:(A++B).Nodup)(hT:T.Perm (A++B))(hTs:T.Pairwise R)(hN:P.length+A.length+B.length+Q.length=N):
  Zaf Tryz.prog 281 [.ref 1000 2 0 N N, .int P.length, .int (P.length+A.length:Nat), .int (P.length+A.length+B.length:Nat), .d (.fn g [])] [(1000, .row 2 ((P++A++B++Q).map (elD v p)))] (.tup []) [(1000, .row 2 ((P++T++Q).map (elD v p)))]:=by
 have hne:∀s,s∈A->∀z,z∈B->s≠z:=(gV.1 hnd).2.2;have hndA:=(gV.1 hnd).1;have hndB:=(gV.1 hnd).2.1;generalize hA0:P.length=A0 at*;obtain⟨m,hm⟩:∃m,m=A0+A.length:=⟨_,rfl⟩;obtain⟨b,hbb⟩:∃b,b=A0+A.length+B.length:=⟨_,rfl⟩;rw[<-hbb,<-hm];obtain⟨mid,hmid⟩:∃mid,mid=(A0+b)/2:=⟨_,rfl⟩;obtain⟨n0,hn0⟩:∃n0,n0=mid+m:=⟨_,rfl⟩;obtain⟨s0,r0,hsr⟩:∃s0 r0:Nat,(mid<m/\s0=n0-b/\r0=mid)\/(¬mid<m/\s0=A0/\r0=m):=by
  by_cases h:mid<m
  ·exact⟨n0-b,mid, .inl ⟨h,rfl,rfl⟩⟩
  ·exact⟨A0,m, .inr ⟨h,rfl,rfl⟩⟩
 have hgA:∀k x,A[k]? =some x->(P++A++B++Q)[A0+k]? =some x:=λ k x hx=>by
  have h1:=(uB.1 hx).1;rw[yP,yP,yZ (by omega),hA0,zV,qH h1,hx]
 have hgB:∀k x,B[k]? =some x->(P++A++B++Q)[m+k]? =some x:=λ k x hx=>by
  have h1:=(uB.1 hx).1;rw[yP,yZ (by rw[uC];omega),qH (by rw[uC];omega),show m+k-(P++A).length=k by rw[uC];omega,hx]
 have hl0:(P++A++B++Q).length=N:=by simp only[uC];omega
 have hfin:∀k q:Nat,A0+k+q=mid->k<=A.length->q<=B.length->(∀x y,0<k->A[k-1]? =some x->B[q]? =some y->R x y)->(∀x y,0<q->B[q-1]? =some x->A[k]? =some y->R x y)->
   ∃L1 L2:List Nat,
    ((k<A.length/\0<q)->Zaf Tryz.prog 290 [.ref 1000 2 0 N N, .int (A0+k:Nat), .int m, .int (m+q:Nat), .d (.fn g [])] [(1000, .row 2 ((P++A++B++Q).map (elD v p)))] (.tup []) [(1000, .row 2 (L1.map (elD v p)))])/\
    (¬(k<A.length/\0<q)->P++A++B++Q=L1)/\
    ((0<k/\0<q)->Zaf Tryz.prog 281 [.ref 1000 2 0 N N, .int A0, .int (A0+k:Nat), .int mid, .d (.fn g [])] [(1000, .row 2 (L1.map (elD v p)))] (.tup []) [(1000, .row 2 (L2.map (elD v p)))])/\
    (¬(0<k/\0<q)->L1=L2)/\
    ((k<A.length/\q<B.length)->Zaf Tryz.prog 281 [.ref 1000 2 0 N N, .int mid, .int (m+q:Nat), .int b, .d (.fn g [])] [(1000, .row 2 (L2.map (elD v p)))] (.tup []) [(1000, .row 2 ((P++T++Q).map (elD v p)))])/\
    (¬(k<A.length/\q<B.length)->L2=P++T++Q):=by
  intro k q hkq hk hq h1 h2;obtain⟨T1,T2,rfl,p1,p2,s1,s2⟩:=Zvg hR hk hq hAs hBs hTs hT hnd h1 h2;have lt:=uS (i:=k) (l:=A);have ld:=qP (i:=k) (l:=A);have mt:=uS (i:=q) (l:=B);have md:=qP (i:=q) (l:=B);have ea:=yU k A;have eb:=yU q B;have e1:=p1.length_eq;have e2:=p2.length_eq;rw[uC]at e1 e2;have sa:(A.take k).Pairwise R/\(A.drop k).Pairwise R:=by
   have:=hAs;rw[<-ea]at this;exact⟨(yX.1 this).1,(yX.1 this).2.1⟩
  have sb:(B.take q).Pairwise R/\(B.drop q).Pairwise R:=by
   have:=hBs;rw[<-eb]at this;exact⟨(yX.1 this).1,(yX.1 this).2.1⟩
  have nd1:(A.take k++B.take q).Nodup:=gV.2 ⟨hndA.sublist (jK _ _),hndB.sublist (jK _ _),λ s hs z hz=>hne s (qR hs) z (qR hz)⟩;have nd2:(A.drop k++B.drop q).Nodup:=gV.2 ⟨hndA.sublist (kT _ _),hndB.sublist (kT _ _),λ s hs z hz=>hne s (gS hs) z (gS hz)⟩;refine⟨P++A.take k++B.take q++A.drop k++B.drop q++Q,P++T1++A.drop k++B.drop q++Q,?_,?_,?_,?_,?_,?_⟩
  ·rintro⟨c1,c2⟩;have h:=Zxf v p g (P++A.take k) (A.drop k) (B.take q) (B.drop q++Q) (by omega) (by omega) N (by simp only[uC];omega) hN1 ((A0+k:Nat):Int) m ((m+q:Nat):Int)
    (by rw[uC];omega) (by rw[uC];omega) (by rw[uC];omega)
   have r1:P++A.take k++A.drop k++B.take q++(B.drop q++Q)=P++A++B++Q:=by
    rw[yP P,ea,yP (P++A),<-yP (B.take q),eb,<-yP]
   have r2:P++A.take k++B.take q++A.drop k++(B.drop q++Q)=P++A.take k++B.take q++A.drop k++B.drop q++Q:=by simp
   rw[r1,r2]at h;exact h
  ·intro c1;by_cases c2:k<A.length
   ·have:q=0:=by
     by_cases c3:0<q
     ·exact absurd ⟨c2,c3⟩ c1
     ·omega
    subst this;refine Eq.trans (qW (λ Z=>P++Z++B++Q) ea.symm) ?_;simp
   ·have:k=A.length:=by omega
    subst this;refine Eq.trans (qW (λ Z=>P++A++Z++Q) eb.symm) ?_;simp
  ·rintro⟨c1,c2⟩;have h:=IH P (A.take k) (B.take q) (A.drop k++B.drop q++Q) (by omega) T1 (by omega) (by omega) sa.1 sb.1 (λ s hs z hz=>hb s (qR hs) z (qR hz)) nd1 p1 s1 (by simp only[uC];omega)
    A0 ((A0+k:Nat):Int) mid (by omega) (by omega) (by omega)
   have r1:P++A.take k++B.take q++(A.drop k++B.drop q++Q)=P++A.take k++B.take q++A.drop k++B.drop q++Q:=by simp
   have r2:P++T1++(A.drop k++B.drop q++Q)=P++T1++A.drop k++B.drop q++Q:=by simp
   rw[r1,r2]at h;exact h
  ·intro c1;have:T1=A.take k++B.take q:=by
    refine ZgY hR p1 s1 ?_;rcases qT k with rfl|c2
    ·rw[yY,gF];exact sb.1
    ·have:q=0:=by
      by_cases c3:0<q
      ·exact absurd ⟨c2,c3⟩ c1
      ·omega
     subst this;rw[yY,yO];exact sa.1
   rw[this];simp
  ·rintro⟨c1,c2⟩;have h:=IH (P++T1) (A.drop k) (B.drop q) Q (by omega) T2 (by omega) (by omega) sa.2 sb.2 (λ s hs z hz=>hb s (gS hs) z (gS hz)) nd2 p2 s2 (by rw[uC];omega)
    mid ((m+q:Nat):Int) b (by rw[uC];omega) (by rw[uC];omega) (by rw[uC];omega)
   have r2:P++T1++T2++Q=P++(T1++T2)++Q:=by simp
   rw[r2]at h;exact h
  ·intro c1;have:T2=A.drop k++B.drop q:=by
    refine ZgY hR p2 s2 ?_;by_cases c2:k<A.length
    ·have:q=B.length:=by
      by_cases c3:q<B.length
      ·exact absurd ⟨c2,c3⟩ c1
      ·omega
     subst this;rw[List.drop_length,yO];exact sa.2
    ·have:k=A.length:=by omega
     subst this;rw[List.drop_length,gF];exact sb.2
   rw[this];simp
 clear IH hT hTs;generalize P++A++B++Q=L0 at*;generalize P++T++Q=LT at*;have d1:¬((m:Int)-(A0:Int)=1):=by omega
 have d2:¬((b:Int)-(m:Int)=1):=by omega
 have w1:IntKind.u64.wrap ((A0:Int)+(b:Int))=(A0:Int)+(b:Int):=Zkp (by omega) (by omega);have w2:((A0:Int)+(b:Int)).fdiv (2^min 1 64)=(mid:Int):=by rw[ZiP (by omega)];omega
 have d3:(mid:Int)+(m:Int)=(n0:Int):=by omega
 have d4:(n0:Int)-1=((n0-1:Nat):Int):=by omega
 obtain⟨pp,hpp⟩:∃pp,pp=n0-1:=⟨_,rfl⟩;rw[<-hpp]at d4;refine kM Tryz.func281 ?_;intro B0 X w0;refine ZcQ ?_
 repeat' first|refine ZbD rfl ?_|refine Za1 ?_|refine wR ?_|(refine ZbF rfl rfl (λ hc=>?_) (λ hc=>?_)<;>try simp only[hcL]at hc)|(refine ZbC _ rfl rfl (λ hc=>?_) (λ hc=>?_)<;>(try simp only[hcL]at hc)<;>try omega)|simp(disch:=omega) only[go_sem,simprocAttr,d1,d2,d3,d4,w1,w2]|apply And.intro|omega|decide+kernel
 all_goals
  refine Zai (λ(q:Nat×Nat)=>match q with|(s,r)=>s0<=s/\s<=r/\r<=r0/\(s=s0\/∃x y,A[s-1-A0]? =some x/\B[mid-s]? =some y/\R x y)/\(r=r0\/∃x y,B[mid-r-1]? =some x/\A[r-A0]? =some y/\R x y)) (λ(s,r)=>[(0, .ref 1000 2 0 N N),(1, .int A0),(2, .int m),(3, .int b),(4, .d (.fn g [])),(18, .int mid),(19, .int n0),(20, .int s),(21, .int r),(22, .int pp)]) (λ(s,r)=>[(1000, .row 2 (L0.map (elD v p)))]) (λ(s,r)=>r-s) (s0,r0) ?_ ?_ ?_
  ·exact⟨uH _,by omega,uH _, .inl rfl, .inl rfl⟩
  ·exact kN kc0 []
  ·rintro⟨s,r⟩ ⟨h1,h2,h3,h4,h5⟩;dsimp only at h1 h2 h3 h4 h5|-;rcases uF s r with hlt|hge
   ·obtain⟨cc,hcc⟩:∃cc,cc=(s+r)/2:=⟨_,rfl⟩;obtain⟨dd,hdd⟩:∃dd,dd=pp-cc:=⟨_,rfl⟩;obtain⟨x,hx⟩:=Zad (l:=A) (k:=cc-A0) (by omega);obtain⟨y,hy⟩:=Zad (l:=B) (k:=mid-1-cc) (by omega);have g1:=hgA _ _ hx;have g2:=hgB _ _ hy;rw[show A0+(cc-A0)=cc by omega]at g1;rw[show m+(mid-1-cc)=dd by omega]at g2;have c1:=hcmp y x;have hbk:=hb x (uA hx) y (uA hy);have hn:=hne x (uA hx) y (uA hy);have v1:IntKind.u64.wrap ((s:Int)+(r:Int))=(s:Int)+(r:Int):=Zkp (by omega) (by omega);have v2:((s:Int)+(r:Int)).fdiv (2^min 1 64)=(cc:Int):=by rw[ZiP (by omega)];omega
    have v3:(pp:Int)-(cc:Int)=(dd:Int):=by omega
    by_cases hc1:c y x<0
    ·refine kw1 kO (kc7 v1 v2 v3 g1 g2 hl0 hc1) (kc1 c1) ?_;refine⟨(s,cc),?_,kN kc0 [],?_⟩
     ·dsimp only;exact⟨h1,by omega,by omega,h4, .inr ⟨y,x,by rw[show mid-cc-1=mid-1-cc by omega];exact hy,hx,hbk.1 hc1⟩⟩
     ·dsimp only;omega
    ·have hxy:R x y:=by
      rcases hR.total x y hn with h|h
      ·exact h
      ·exact absurd (hbk.2 h) hc1
     refine kw1 kO (kc7 v1 v2 v3 g1 g2 hl0 hc1) (kc1 c1) ?_;refine⟨(cc+1,r),?_,kN kc0 [],?_⟩
     ·dsimp only;exact⟨by omega,by omega,h3, .inr ⟨x,y,by rw[show cc+1-1-A0=cc-A0 by omega];exact hx,by rw[show mid-(cc+1)=mid-1-cc by omega];exact hy,hxy⟩,h5⟩
     ·dsimp only;omega
   ·have:s=r:=by omega
    subst this;obtain⟨k,hk⟩:∃k,k=s-A0:=⟨_,rfl⟩;obtain⟨q,hq⟩:∃q,q=mid-s:=⟨_,rfl⟩;obtain⟨L1,L2,f1,f2,f3,f4,f5,f6⟩:=hfin k q (by omega) (by omega) (by omega) (λ x y h0 hx hy=>by
     rcases h4 with h4|⟨x',y',e1,e2,e3⟩
     ·rw[uP (by omega)]at hy;cases hy
     ·rw[show s-1-A0=k-1 by omega,hx,uZ]at e1;rw[<-hq,hy,uZ]at e2;rw[e1,e2];exact e3) (λ x y h0 hx hy=>by
     rcases h5 with h5|⟨x',y',e1,e2,e3⟩
     ·rw[uP (by omega)]at hy;cases hy
     ·rw[show mid-s-1=q-1 by omega,hx,uZ]at e1;rw[<-hk,hy,uZ]at e2;rw[e1,e2];exact e3)
    rw[show A0+k=s by omega]at f1 f3;obtain⟨en,hen⟩:∃en,en=m+q:=⟨_,rfl⟩;rw[<-hen]at f1 f5;have v4:(n0:Int)-(s:Int)=(en:Int):=by omega
    clear hfin hgA hgB hb hne h4 h5;by_cases c1:k<A.length/\0<q<;>by_cases c2:0<k/\0<q<;>by_cases c3:k<A.length/\q<B.length
    all_goals
     try have f2:=f2 c1
     try have f4:=f4 c2
     try have f6:=f6 c3
     try subst f2
     try subst f4
     try subst f6
     repeat' first|refine ZbD rfl ?_|refine Za1 ?_|refine wR ?_|refine rcM [] (f1 c1) rfl ?_|refine rcM [] (f3 c2) rfl ?_|refine rcM [] (f5 c3) rfl ?_|(refine ZbF rfl rfl (λ hc=>?_) (λ hc=>?_)<;>try simp only[hcL]at hc)|(refine ZbC _ rfl rfl (λ hc=>?_) (λ hc=>?_)<;>(try simp only[hcL]at hc)<;>try omega)|simp(disch:=omega) only[go_sem,simprocAttr,v4]|apply And.intro|omega|decide+kernel
     all_goals
      refine⟨_,Zbg.1 (kN (L:=[]) (M:=[(1000, .row 2 (_))]) kc0 []),?_⟩
     all_goals exact⟨⟨[],rfl,trivial⟩,fmc ⟨rfl,fmn⟩⟩
theorem Zvc (v:Nat->Int)(p:Nat->List D)(g:Nat)(c:Nat->Nat->Int)(R:Nat->Nat->Prop)(hR:Ord R)(hcmp:∀j k,Zaa Tryz.prog g [elD v p j,elD v p k] (.int (c j k)))(N:Nat)(hN1:N<=1000000):
  ∀(n:Nat) (P A B Q:List Nat),A.length+B.length<n->Zm4 v p g c R N P A B Q:=by
 intro n
 induction n with
 |zero=>intro P A B Q h;omega
 |succ n ih=>
  intro P A B Q hn T hA hB hAs hBs hb hnd hT hTs hN a m b ha hm hbb;subst ha hm hbb;have hne:∀s,s∈A->∀z,z∈B->s≠z:=(gV.1 hnd).2.2;by_cases c1:A.length=1
  ·obtain⟨x,rfl⟩:=List.length_eq_one_iff.1 c1;exact Zvd v p g c R hR hcmp P B Q T x hBs (λ z hz=>hb x (by simp) z hz) (λ z hz=>hne x (by simp) z hz) hT hTs N (by rw[<-hN,qN];omega) hN1 _ _ _ rfl rfl rfl
  ·by_cases c2:B.length=1
   ·obtain⟨y,rfl⟩:=List.length_eq_one_iff.1 c2;exact Zvf v p g c R hR hcmp P A Q T y (by omega) hAs (λ z hz=>hb z hz y (by simp)) (λ z hz=>hne z hz y (by simp)) hT hTs N (by rw[<-hN,qN];omega) hN1 _ _ _ rfl rfl rfl
   ·exact Zve v p g c R hR hcmp N hN1 P A B Q T (by omega) (by omega) (λ P' A' B' Q' h=>ih P' A' B' Q' (by omega)) hAs hBs hb hnd hT hTs hN
def Blk (R:Nat->Nat->Prop)(s:Nat):List Nat->List (List Nat)->Prop
 |L,[]=>L=[]
 |L,X::Xs=>X.Perm (L.take s)/\X.Pairwise R/\Blk R s (L.drop s) Xs
theorem Blk.nil_flat {R:Nat->Nat->Prop}{s:Nat}:∀{Xs:List (List Nat)},Blk R s [] Xs->Xs.flatten=[]
 |[],_=>rfl
 |X::Xs,h=>by
  obtain⟨h1,_,h3⟩:=h;rw[Bh,List.perm_nil]at h1;rw[Cf]at h3;rw[kB,h1,Blk.nil_flat h3];rfl
theorem Blk.nil_any {R:Nat->Nat->Prop}{s t:Nat}:∀{Xs:List (List Nat)},Blk R s [] Xs->Blk R t [] Xs
 |[],h=>h
 |X::Xs,h=>by
  obtain⟨h1,h2,h3⟩:=h;rw[Bh]at h1;rw[Cf]at h3;exact⟨by rw[Bh];exact h1,h2,by rw[Cf];exact Blk.nil_any h3⟩
theorem Blk.perm {R:Nat->Nat->Prop}{s:Nat}:∀{L:List Nat} {Xs:List (List Nat)},Blk R s L Xs->Xs.flatten.Perm L
 |L,[],h=>by
  have:L=[]:=h;subst this;exact zH _
 |L,X::Xs,h=>by
  obtain⟨h1,_,h3⟩:=h;have:=h1.append (Blk.perm h3);rw[yU]at this;rw[kB];exact this
theorem Blk.short {R:Nat->Nat->Prop}{s t:Nat}{L:List Nat}{Xs:List (List Nat)}(h:Blk R s L Xs)(hl:L.length<=s)(ht:L.length<=t):Blk R t L Xs:=by
 cases Xs with
 |nil=>exact h
 |cons X Xs=>
  obtain⟨h1,h2,h3⟩:=h;rw[gW hl]at h3;rw[uD hl]at h1;exact⟨by rw[uD ht];exact h1,h2,by rw[gW ht];exact h3.nil_any⟩
theorem Blk.one {R:Nat->Nat->Prop}{s:Nat}{L:List Nat}{Xs:List (List Nat)}(h:Blk R s L Xs)(hl:L.length<=s):Xs.flatten.Pairwise R:=by
 cases Xs with
 |nil=>exact List.Pairwise.nil
 |cons X Xs=>
  obtain⟨h1,h2,h3⟩:=h;rw[gW hl]at h3;rw[kB,h3.nil_flat,yO];exact h2
theorem Blk.two {R:Nat->Nat->Prop}{s:Nat}{L:List Nat}{Xs:List (List Nat)}(h:Blk R s L Xs)(hl:s<L.length)(hs:0<s):
  ∃X Y Ys,Xs=X::Y::Ys/\X.Perm (L.take s)/\Y.Perm ((L.drop s).take s)/\X.Pairwise R/\Y.Pairwise R/\Blk R s (L.drop (2*s)) Ys:=by
 cases Xs with
 |nil=>
  have:L=[]:=h;subst this;simp at hl
 |cons X Xs=>
  obtain⟨h1,h2,h3⟩:=h;cases Xs with
  |nil=>
   have:L.drop s=[]:=h3;have:=qW List.length this;rw[qP,uY]at this;omega
  |cons Y Ys=>
   obtain⟨g1,g2,g3⟩:=h3;rw[List.drop_drop,show s+s=2*s by omega]at g3;exact⟨X,Y,Ys,rfl,h1,g1,h2,g2,g3⟩
theorem Zrg (L:List Nat)(s:Nat):L.take s++(L.drop s).take s=L.take (2*s):=by
 rw[show 2*s=s+s by omega,List.take_add]
theorem Zns {c:Nat->Nat->Int}{R:Nat->Nat->Prop}{L:List Nat}(h:L.Pairwise (ZcX c R))(s:Nat){X Y:List Nat}(hx:X.Perm (L.take s))(hy:Y.Perm ((L.drop s).take s)):∀x,x∈X->∀y,y∈Y->ZcX c R x y:=λ x h1 y h2=>by
 rw[<-yU s L]at h;exact(yX.1 h).2.2 x (hx.mem_iff.1 h1) y (qR (hy.mem_iff.1 h2))
theorem ZyT (v:Nat->Int)(p:Nat->List D)(g:Nat)(c:Nat->Nat->Int)(R:Nat->Nat->Prop)(hR:Ord R)(hcmp:∀j k,Zaa Tryz.prog g [elD v p j,elD v p k] (.int (c j k)))
  (L T:List Nat)(hb:L.Pairwise (ZcX c R))(hnd:L.Nodup)(hT:T.Perm L)(hTs:T.Pairwise R)(hN1:L.length<=100000):
  Zaf Tryz.prog 262 [.ref 1000 2 0 L.length L.length, .int L.length, .d (.fn g [])] [(1000, .row 2 (L.map (elD v p)))] (.tup []) [(1000, .row 2 (T.map (elD v p)))]:=by
 generalize hN:L.length=N at*;have hmerge:=λ P A B Q=>Zvc v p g c R hR hcmp N (by omega) (A.length+B.length+1) P A B Q (by omega)
 have hsort:=λ P M Q S h1 h2 h3 h4 h5 a e ha he=>ZuH v p g c R hR hcmp P M Q S h1 h2 h3 h4 N h5 (by omega) a e ha he
 refine kM Tryz.func262 ?_;intro B0 X0 w0;refine ZcQ ?_;refine kw1 kO kc0 kc0 ?_;refine Zai (λ(q:List (List Nat)×List Nat)=>match q with|(Ds,L2)=>(∀Fs,Blk R 20 L2 Fs->Blk R 20 L (Ds++Fs))/\L2.Pairwise (ZcX c R)/\L2.Nodup/\Ds.flatten.length+L2.length=N) (λ(Ds,L2)=>[(0, .ref 1000 2 0 N N),(1, .int N),(2, .d (.fn g [])),(6, .int 20),(7, .int Ds.flatten.length),(8, .int ((Ds.flatten.length+20:Nat):Int))]) (λ(Ds,L2)=>[(1000, .row 2 ((Ds.flatten++L2).map (elD v p)))]) (λ(Ds,L2)=>L2.length) ([],L) ?_ ?_ ?_
 ·exact⟨λ Fs h=>h,hb,hnd,by rw[<-hN];simp⟩
 ·exact kN (kc2 @Bg.{0} @gF.{0}) []
 ·rintro⟨Ds,L2⟩ ⟨h1,h2,h3,h4⟩;dsimp only at h1 h2 h3 h4|-;by_cases hlen:20<=L2.length
  ·obtain⟨S,hS1,hS2⟩:=Zhi hR (h3.sublist (jK 20 L2));have ht:=uS (i:=20) (l:=L2);have hSl:=hS1.length_eq;have hso:=hsort Ds.flatten (L2.take 20) (L2.drop 20) S (h2.sublist (jK _ _)) (h3.sublist (jK _ _)) hS1 hS2 (by rw[qP];omega) Ds.flatten.length ((Ds.flatten.length+20:Nat):Int) rfl (by omega);rw[yP,yU]at hso;have e1:(Ds++[S]).flatten=Ds.flatten++S:=by simp
   have e2:(Ds.flatten++S).length=Ds.flatten.length+20:=by rw[uC];omega
   have v0:((Ds.flatten.length+20:Nat):Int)+20=((Ds.flatten.length+20+20:Nat):Int):=by omega
   refine kw1 kO (kc1 v0) (kc1 (kmc [] hso)) ?_;refine⟨(Ds++[S],L2.drop 20),?_,kN (kc2 e1 e2) [],?_⟩
   ·dsimp only;refine⟨λ Fs hF=>?_,h2.sublist (kT _ _),h3.sublist (kT _ _),by rw[e1,e2,qP];omega⟩;have:=h1 (S::Fs) ⟨hS1,hS2,hF⟩;rw[yP];exact this
   ·dsimp only;rw[qP];omega
  ·obtain⟨S,hS1,hS2⟩:=Zhi hR h3;have hSl:=hS1.length_eq;have hso:=hsort Ds.flatten L2 [] S h2 h3 hS1 hS2 (by rw[uY];omega) Ds.flatten.length N rfl (by omega);rw[yO,yO]at hso;have hB:Blk R 20 L (Ds++[S]):=h1 [S] ⟨by rw[uD (by omega)];exact hS1,hS2,gW (by omega)⟩;have e1:(Ds++[S]).flatten=Ds.flatten++S:=by simp
   refine kw1 kO kc0 (kc1 (kmc [] hso)) ?_;refine Zai (λ(q:Nat×List (List Nat))=>match q with|(s,Ds)=>20<=s/\s<=400000/\Blk R s L Ds) (λ(s,Ds)=>[(0, .ref 1000 2 0 N N),(1, .int N),(2, .d (.fn g [])),(6, .int s)]) (λ(s,Ds)=>[(1000, .row 2 (Ds.flatten.map (elD v p)))]) (λ(s,Ds)=>N-s) (20,Ds++[S]) ?_ ?_ ?_
   ·exact⟨uH _,by omega,hB⟩
   ·exact kN (kc1 e1) []
   ·clear h1 h2 h3 h4 hlen hS1 hS2 hSl hso hB e1;rintro⟨s,Ds⟩ ⟨g1,g2,g3⟩;dsimp only at g1 g2 g3|-;rcases uF s N with hlt|hge
    ·refine kw1 kO kc0 kc0 ?_;refine Zai (λ(q:List (List Nat)×List (List Nat)×List Nat)=>match q with|(Es,Ds,L2)=>(∀Fs,Blk R (2*s) L2 Fs->Blk R (2*s) L (Es++Fs))/\Blk R s L2 Ds/\L2.Pairwise (ZcX c R)/\L2.Nodup/\Es.flatten.length+L2.length=N) (λ(Es,Ds,L2)=>[(0, .ref 1000 2 0 N N),(1, .int N),(2, .d (.fn g [])),(6, .int s),(7, .int Es.flatten.length),(8, .int ((Es.flatten.length+2*s:Nat):Int))]) (λ(Es,Ds,L2)=>[(1000, .row 2 ((Es.flatten++Ds.flatten).map (elD v p)))]) (λ(Es,Ds,L2)=>L2.length) ([],Ds,L) ?_ ?_ ?_
     ·exact⟨λ Fs h=>h,g3,hb,hnd,by rw[<-hN];simp⟩
     ·have z2:((2*s:Nat):Int)=2*(s:Int):=by omega
      exact kN (kc5 @Bg.{0} @gF.{0} @uY.{0} @qO z2) []
     ·rintro⟨Es,Ds,L2⟩ ⟨h1,h0,h2,h3,h4⟩;dsimp only at h0 h1 h2 h3 h4|-;by_cases hlen:2*s<=L2.length
      ·obtain⟨X,Y,Ys,rfl,p1,p2,s1,s2,hY⟩:=h0.two (by omega) (by omega);have l1:=p1.length_eq;have l2:=p2.length_eq;rw[uS]at l1;rw[uS,qP]at l2;have hXY:(X++Y).Perm (L2.take (2*s)):=by rw[<-Zrg];exact p1.append p2
       have hnXY:(X++Y).Nodup:=hXY.nodup_iff.2 (h3.sublist (jK _ _));obtain⟨S,hS1,hS2⟩:=Zhi hR hnXY;have lS:=hS1.length_eq;rw[uC]at lS;have lY:=hY.perm.length_eq;rw[qP]at lY;have hme:=hmerge Es.flatten X Y Ys.flatten S (by omega) (by omega) s1 s2 (Zns h2 s p1 p2) hnXY hS1 hS2 (by omega) Es.flatten.length ((Es.flatten.length+s:Nat):Int) ((Es.flatten.length+2*s:Nat):Int) rfl (by omega) (by omega);have r1:Es.flatten++X++Y++Ys.flatten=Es.flatten++(X::Y::Ys).flatten:=by simp
       have r2:Es.flatten++S++Ys.flatten=(Es++[S]).flatten++Ys.flatten:=by simp
       rw[r1,r2]at hme;have e2:(Es++[S]).flatten.length=Es.flatten.length+2*s:=by
        have:(Es++[S]).flatten=Es.flatten++S:=by simp
        rw[this,uC];omega
       have v1:(Es.flatten.length:Int)+(s:Int)=((Es.flatten.length+s:Nat):Int):=by omega
       have v2:((Es.flatten.length+2*s:Nat):Int)+2*(s:Int)=((Es.flatten.length+2*s+2*s:Nat):Int):=by omega
       refine kw1 kO (kc2 v1 v2) (kc1 (kmc [] hme)) ?_;refine⟨(Es++[S],Ys,L2.drop (2*s)),?_,kN (kc1 e2) [],?_⟩
       ·dsimp only;refine⟨λ Fs hF=>?_,hY,h2.sublist (kT _ _),h3.sublist (kT _ _),by rw[e2,qP];omega⟩;have:=h1 (S::Fs) ⟨hS1.trans hXY,hS2,hF⟩;rw[yP];exact this
       ·dsimp only;rw[qP];omega
      ·have v1:(Es.flatten.length:Int)+(s:Int)=((Es.flatten.length+s:Nat):Int):=by omega
       have v3:(s:Int)*2=((2*s:Nat):Int):=by omega
       by_cases hl2:s<L2.length
       ·obtain⟨X,Y,Ys,rfl,p1,p2,s1,s2,hY⟩:=h0.two (by omega) (by omega);have l1:=p1.length_eq;have l2:=p2.length_eq;rw[uS]at l1;rw[uS,qP]at l2;have hXY:(X++Y).Perm (L2.take (2*s)):=by rw[<-Zrg];exact p1.append p2
        have hnXY:(X++Y).Nodup:=hXY.nodup_iff.2 (h3.sublist (jK _ _));obtain⟨S,hS1,hS2⟩:=Zhi hR hnXY;have lS:=hS1.length_eq;rw[uC]at lS;rw[gW (by omega)]at hY;have hYf:=hY.nil_flat;have hme:=hmerge Es.flatten X Y [] S (by omega) (by omega) s1 s2 (Zns h2 s p1 p2) hnXY hS1 hS2 (by rw[uY];omega) Es.flatten.length ((Es.flatten.length+s:Nat):Int) N rfl (by omega) (by omega);have r1:Es.flatten++X++Y++[]=Es.flatten++(X::Y::Ys).flatten:=by simp[hYf]
        have r2:Es.flatten++S++[]=(Es++[S]).flatten:=by simp
        rw[r1,r2]at hme;have hF:Blk R (2*s) L (Es++[S]):=h1 [S] ⟨hS1.trans hXY,hS2,gW (by omega)⟩;refine kw1 kO (kc2 v1 v3) (kc1 (kmc [] hme)) ?_;refine⟨(2*s,Es++[S]),?_,kN kc0 [],?_⟩
        ·exact⟨by omega,by omega,hF⟩
        ·dsimp only;omega
       ·have hF:=h1 Ds (h0.short (by omega) (by omega));have r2:Es.flatten++Ds.flatten=(Es++Ds).flatten:=by simp
        refine kw1 kO (kc2 v1 v3) kc0 ?_;refine⟨(2*s,Es++Ds),?_,kN (kc1 r2) [],?_⟩
        ·exact⟨by omega,by omega,hF⟩
        ·dsimp only;omega
    ·have hfl:Ds.flatten=T:=ZgY hR (g3.perm.trans hT.symm) (g3.one (by omega)) hTs;refine kw1 kO kc0 kc0 ?_;refine⟨_,Zbg.1 (kN (L:=[]) (M:=[(1000, .row 2 (T.map (elD v p)))]) (kc1 hfl) []),?_⟩;exact⟨⟨[],rfl,trivial⟩,fmc ⟨rfl,fmn⟩⟩
theorem ZrQ (v:Nat->Int)(p:Nat->List D)(g:Nat)(c:Nat->Nat->Int)(R:Nat->Nat->Prop)(hR:Ord R)(hcmp:∀j k,Zaa Tryz.prog g [elD v p j,elD v p k] (.int (c j k)))
  (L T:List Nat)(hb:L.Pairwise (ZcX c R))(hnd:L.Nodup)(hT:T.Perm L)(hTs:T.Pairwise R)(hN1:L.length<=100000):
  Zaf Tryz.prog 244 [.ref 1000 2 0 L.length L.length, .d (.fn g [])] [(1000, .row 2 (L.map (elD v p)))] (.tup []) [(1000, .row 2 (T.map (elD v p)))]:=by
 have h1:=ZyT v p g c R hR hcmp L T hb hnd hT hTs hN1;refine kM Tryz.func244 ?_;intro B0 X0 w0;refine ZcQ ?_;refine kw1 kO kc0 (kc1 (kmc [] h1)) ?_;refine⟨_,Zbg.1 (kN (L:=[]) (M:=[(1000, .row 2 (T.map (elD v p)))]) kc0 []),?_⟩;exact⟨⟨[],rfl,trivial⟩,fmc ⟨rfl,fmn⟩⟩
end Go.Proofs.YtjjbhjnpeenbkaaGreatDoor
namespace Go.Proofs.YtjjbhjnpeenbkaaGreatDoor
open Go Go.PS Go.Proofs
open Go.Stb
def ZiJ (y:List Int)(v:Int)(x:Arc):List Int:=(if x.1=v/\0<=placeF y x.2 then[placeF y x.2]else[])++(if x.2=v/\0<=placeF y x.1 then[placeF y x.1]else[])
def Zbr (y:List Int)(ar:List Arc)(v:Int):List Int:=ar.flatMap (ZiJ y v)
theorem ZpX (y:List Int)(v:Int):∀ar:List Arc,(Zbr y ar v).length<=2*ar.length
 |[]=>by simp[Zbr]
 |x::ar=>by
  have ih:=ZpX y v ar;have:(ZiJ y v x).length<=2:=by
   rw[ZiJ];split<;>split<;>simp
  rw[Zbr]at ih|-;rw[gE,uC,uV];omega
def Zdh (p:Nat->List Int)(T:List Nat)(k:Nat):Nat->Nat
 |0=>0
 |n+1=>if 0<ZbR (p ((T[n]?).getD 0)) (p k)then Zdh p T k n else n+1
def Zhn (p:Nat->List Int)(T:List Nat)(k:Nat):List Nat:=T.take (Zdh p T k T.length)++k::T.drop (Zdh p T k T.length)
def Zmq (p:Nat->List Int)(l:List Nat):List Nat:=l.foldl (Zhn p) []
theorem Zk5 (p:Nat->List Int)(T:List Nat)(k:Nat):∀n,Zdh p T k n<=n
 |0=>uH _
 |n+1=>by rw[Zdh];have:=Zk5 p T k n;split<;>omega
theorem ZoP (p:Nat->List Int)(T:List Nat)(k:Nat):(Zhn p T k).Perm (k::T):=by
 rw[Zhn];refine zC.trans ?_;rw[yU]
theorem Zn7 (p:Nat->List Int)(T:List Nat)(k:Nat):∀n,0<Zdh p T k n->¬0<ZbR (p ((T[Zdh p T k n-1]?).getD 0)) (p k)
 |0,h=>by rw[Zdh]at h;omega
 |n+1,h=>by
  rw[Zdh]at h|-;split
  ·rename_i c;rw[if_pos c]at h;exact Zn7 p T k n h
  ·rename_i c;exact c
theorem Zn6 (p:Nat->List Int)(T:List Nat)(k:Nat):∀n,Zdh p T k n<n->0<ZbR (p ((T[Zdh p T k n]?).getD 0)) (p k)
 |0,h=>by omega
 |n+1,h=>by
  rw[Zdh]at h|-;split
  ·rename_i c;rw[if_pos c]at h;by_cases c2:Zdh p T k n<n
   ·exact Zn6 p T k n c2
   ·have:=Zk5 p T k n;have:Zdh p T k n=n:=by omega
    rw[this];exact c
  ·rename_i c;rw[if_neg c]at h;omega
theorem ZuC {p:Nat->List Int}{T:List Nat}{k:Nat}(hs:T.Pairwise (Zfp p))(hk:∀j,j∈T->j<k):(Zhn p T k).Pairwise (Zfp p):=by
 have hle:=Zk5 p T k T.length;refine Zl8 (ZpJ p) hle hs (λ x h0 hx=>?_) (λ x hx=>?_)
 ·have:=Zn7 p T k T.length h0;rw[hx,yQ]at this;exact .inr ⟨λ h=>this (by have:=ZkY (p x) (p k);omega),hk x (uA hx)⟩
 ·have h1:=(uB.1 hx).1;have:=Zn6 p T k T.length h1;rw[hx,yQ]at this;exact .inl (by have:=ZkY (p k) (p x);omega)
theorem ZyF (p:Nat->List Int)(l:List Nat):(Zmq p l).Perm l:=by
 have:∀(l T:List Nat),(l.foldl (Zhn p) T).Perm (l++T):=by
  intro l
  induction l with
  |nil=>intro T;exact zH _
  |cons k l ih=>
   intro T;rw[jB];refine(ih _).trans (((ZoP p T k).append_left l).trans ?_);exact zC
 have h:=this l [];rw[yO]at h;exact h
theorem ZyG {p:Nat->List Int}{l:List Nat}(hl:l.Pairwise (·<·)):(Zmq p l).Pairwise (Zfp p):=by
 have:∀(l T:List Nat),T.Pairwise (Zfp p)->l.Pairwise (·<·)->(∀j,j∈T->∀k,k∈l->j<k)->(l.foldl (Zhn p) T).Pairwise (Zfp p):=by
  intro l
  induction l with
  |nil=>intro T h _ _;exact h
  |cons k l ih=>
   intro T h1 h2 h3;rw[jG]at h2;rw[jB];refine ih _ (ZuC h1 λ j hj=>h3 j hj k (by simp)) h2.2 λ j hj q hq=>?_
   rcases yH.1 ((ZoP p T k).mem_iff.1 hj)with rfl|hj
   ·exact h2.1 q hq
   ·exact h3 j hj q (uM _ hq)
 exact this l [] List.Pairwise.nil hl (λ j hj=>by cases hj)
def Zcu (y z:List Int)(ar:List Arc)(k:Nat):Bool:= !(Zbr z ar (at0 y k)).isEmpty
def Za8 (y z:List Int)(ar:List Arc)(n:Nat):List Nat:=(List.range n).filter (Zcu y z ar)
def Zez (y z:List Int)(ar:List Arc):List Nat:=Zmq (λ k=>Zbr z ar (at0 y k)) (Za8 y z ar y.length)
def ZeZ (y z:List Int)(ar:List Arc):List Int:=(List.range y.length).map λ k=>if Zcu y z ar k then at0 y (((Zez y z ar)[(Za8 y z ar k).length]?).getD 0:Nat)else at0 y k
theorem Zjx (y z:List Int)(ar:List Arc)(n:Nat):Za8 y z ar (n+1)=if Zcu y z ar n then Za8 y z ar n++[n]else Za8 y z ar n:=by
 rw[Za8,gG,gX,zB,zK];split<;>simp[Za8]
theorem Zie (y z:List Int)(ar:List Arc)(n:Nat):(Za8 y z ar n).Pairwise (·<·):=List.Pairwise.filter _ kX
theorem Zlk {y z:List Int}{ar:List Arc}{n k:Nat}(h:k∈Za8 y z ar n):k<n/\Zcu y z ar k=true:=by
 rw[Za8,Aa,yD]at h;exact h
theorem Zhk {y z:List Int}{ar:List Arc}:∀{n k:Nat},k<n->Zcu y z ar k=true->(Za8 y z ar n)[(Za8 y z ar k).length]? =some k
 |0,_,h,_=>by omega
 |n+1,k,h,hk=>by
  rcases uF k n with c|c
  ·have ih:=Zhk c hk;rw[Zjx];split
   ·rw[qH (uB.1 ih).1];exact ih
   ·exact ih
  ·have:k=n:=by omega
   subst this;rw[Zjx,if_pos hk,yZ (uH _),gZ];rfl
theorem Zka (y z:List Int)(ar:List Arc):(Zez y z ar).Perm (Za8 y z ar y.length):=ZyF _ _
theorem ZqQ (y z:List Int)(ar:List Arc):(Zez y z ar).length=(Za8 y z ar y.length).length:=(Zka y z ar).length_eq
def ZiD (y z:List Int)(ar:List Arc):List Nat:=(List.range y.length).map λ k=>if Zcu y z ar k then((Zez y z ar)[(Za8 y z ar k).length]?).getD 0 else k
theorem Zv0 (y z:List Int)(ar:List Arc):ZeZ y z ar=ZaG y (ZiD y z ar):=by
 rw[ZeZ,ZaG,ZiD,gN];refine yE λ k _=>?_
 simp only[Function.comp_apply,at0,uQ];split<;>rfl
theorem ZiQ {y z:List Int}{ar:List Arc}{k:Nat}(hk:k<y.length)(h:Zcu y z ar k=true):
  ∃t,(Zez y z ar)[(Za8 y z ar k).length]? =some t/\t<y.length/\Zcu y z ar t=true:=by
 have h1:=(uB.1 (Zhk hk h)).1;rw[<-ZqQ]at h1;obtain⟨t,ht⟩:=Zad h1;have h2:=(Zka y z ar).mem_iff.1 (uA ht);exact⟨t,ht,Zlk h2⟩
theorem Zpy {l:List Nat}(hn:l.Nodup){i j x:Nat}(hi:l[i]? =some x)(hj:l[j]? =some x):i=j:=by
 obtain⟨i1,e1⟩:=uB.1 hi;obtain⟨j1,e2⟩:=uB.1 hj;have hp:=jO.1 hn;rcases Aw i j with h|h|h
 ·exact absurd (e1.trans e2.symm) (hp i j i1 j1 h)
 ·exact h
 ·exact absurd (e2.trans e1.symm) (hp j i j1 i1 h)
theorem ZyE (y z:List Int)(ar:List Arc):(Zez y z ar).Nodup:=
 (Zka y z ar).nodup_iff.2 ((Zie y z ar y.length).imp λ h=>Ci h)
theorem Zoy {y z:List Int}{ar:List Arc}{j k n:Nat}(hj:j<n)(hk:k<n)(h1:Zcu y z ar j=true)(h2:Zcu y z ar k=true)(he:(Za8 y z ar j).length=(Za8 y z ar k).length):j=k:=by
 have e1:=Zhk hj h1;have e2:=Zhk hk h2;rw[he,e2,uZ]at e1;exact e1.symm
theorem Zv6 (y z:List Int)(ar:List Arc):Go.Bd.Part y.length 0 (ZiD y z ar):=by
 refine⟨?_,λ v hv=>?_,by simp[ZiD]⟩
 ·rw[ZiD,List.nodup_iff_pairwise_ne,List.pairwise_map];refine List.Pairwise.imp_of_mem (R:=(·<·)) (λ{j k} hj hk hlt=>?_) kX;rw[yD]at hj hk;rcases c1:Zcu y z ar j with _|_<;>rcases c2:Zcu y z ar k with _|_<;>simp only[if_true,jE,qB]
  ·omega
  ·obtain⟨t,h1,h2,h3⟩:=ZiQ hk c2;rw[h1,yQ];rintro rfl;rw[c1]at h3;cases h3
  ·obtain⟨t,h1,h2,h3⟩:=ZiQ hj c1;rw[h1,yQ];rintro rfl;rw[c2]at h3;cases h3
  ·obtain⟨t,h1,h2,h3⟩:=ZiQ hj c1;obtain⟨u,g1,g2,g3⟩:=ZiQ hk c2;rw[h1,g1,yQ,yQ];rintro rfl;have:=Zpy (ZyE y z ar) h1 g1;have:=Zoy hj hk c1 c2 this;omega
 ·obtain⟨k,hk,rfl⟩:=uN.1 hv;rw[yD]at hk;rcases c1:Zcu y z ar k with _|_<;>simp only[if_true,jE,qB]
  ·exact hk
  ·obtain⟨t,h1,h2,h3⟩:=ZiQ hk c1;rw[h1];exact h2
theorem ZpI {y:List Int}(hn:y.Nodup)(z:List Int)(ar:List Arc):(ZeZ y z ar).Perm y:=by
 rw[Zv0];exact Zl5 hn (Zv6 y z ar)
theorem Zv1 (y z:List Int)(ar:List Arc):(ZeZ y z ar).length=y.length:=by simp[ZeZ]
def ZgK (b:Lv)(i f:Nat):Lv:=ZbO b i (ZeZ (Zaq b.2.1 i) (Zaq b.2.1 f) b.2.2.1)
theorem Zo1 {a b:Lv}(h:Kin a b){i:Nat}(hi:i<a.2.1.length)(f:Nat):Kin a (ZgK b i f):=
 h.put (h.lay hi) (ZpI (Zin h.ok (h.lay hi)) _ _)
def Zdi (b:Lv):Nat->Lv
 |0=>b
 |k+1=>ZgK (Zdi b k) (k+1) k
def upB (b:Lv)(n:Nat):Nat->Lv
 |0=>b
 |k+1=>ZgK (upB b n k) (n-2-k) (n-1-k)
def swB (b:Lv):Lv:=upB (Zdi b (b.2.1.length-1)) b.2.1.length (b.2.1.length-1)
theorem Zk7 {a b:Lv}(h:Kin a b):∀k,k<=a.2.1.length-1->Kin a (Zdi b k)
 |0,_=>h
 |k+1,hk=>Zo1 (Zk7 h k (by omega)) (by omega) k
theorem ZmM {a b:Lv}(h:Kin a b):∀k,k<=a.2.1.length-1->Kin a (upB b a.2.1.length k)
 |0,_=>h
 |k+1,hk=>Zo1 (ZmM h k (by omega)) (by omega) _
theorem Zy9 {a b:Lv}(h:Kin a b):Kin a (swB b):=by
 rw[swB,h.len];exact ZmM (Zk7 h _ (uH _)) _ (uH _)
def Zc9 (a:Lv):Nat->Lv
 |0=>a
 |k+1=>swB (Zc9 a k)
def Zb5 (a:Lv):Nat->Lv
 |0=>a
 |k+1=>if Za2 (Zc9 a (k+1))<Za2 (Zb5 a k)then Zc9 a (k+1)else Zb5 a k
theorem ZlO {a:Lv}(hv:Zay a=true)(hw:wide a):∀k,Kin a (Zc9 a k)
 |0=>Kin.refl hv hw
 |k+1=>Zy9 (ZlO hv hw k)
theorem ZkS {a:Lv}(hv:Zay a=true)(hw:wide a):∀k,Kin a (Zb5 a k)
 |0=>Kin.refl hv hw
 |k+1=>by
  rw[Zb5];split
  ·exact ZlO hv hw (k+1)
  ·exact ZkS hv hw k
def Zfv (r:Int):Nat:=(min (max r 0) 100).toNat
def Zjj (a:Lv)(r:Int):Lv×Int:=if Zay a then(Zb5 a (Zfv r),Za2 (Zb5 a (Zfv r)))else(lv0,0)
set_option maxRecDepth 100000
attribute [local irreducible] Zab wpG Zaa Zaf
def ZeY (x:Int):Bool:=decide (0<=x/\x<=1048576)
theorem ZvR (l:List Int):ZiB l=(decide (l.length<=4096)&&l.all ZeY):=rfl
theorem ZsH {l:List Int}(h:∀x,x∈l->ZeY x=true):0<=l.sum/\l.sum<=((l.length*1048576:Nat):Int):=
 ZoS λ x hx=>by
  have:=h x hx;rw[ZeY,uG]at this;exact this
theorem Zy8 {l:List Int}{k:Nat}{x:Int}(h:l[k]? =some x):(l.take (k+1)).sum=(l.take k).sum+x:=by
 rw[ZaD h,Bm];simp
theorem ZrZ {l:List Int}{k:Nat}{x:Int}(h:l[k]? =some x)(hx:ZeY x=false):l.all ZeY=false:=by
 rw[List.all_eq_false];exact⟨x,uA h,by rw[hx];decide⟩
theorem all_take {l:List Int}(h:∀x,x∈l.take l.length->ZeY x=true):l.all ZeY=true:=by
 rw[yI]at h;rw[uW];exact h
theorem ZnH (l:List Int):Zaa Tryz.prog 263 [Zac l] (.tup [.int (Zba l), .int (ZaB l)]):=by
 rw[Zba,ZaB,ZvR];refine kE Tryz.func263 ?_;intro hat B X w0;by_cases hl:l.length<=4096
 ·refine kw1 kO kc0 kc0 ?_;refine Zai (λ(k:Nat)=>k<=l.length/\(∀x,x∈l.take k->ZeY x=true)) (λ k=>[(0, .d (Zac l)),(4, .int (l.take k).sum),(10, .d (Zac l)),(11, .int l.length),(12, .int k)]) (λ k=>[]) (λ k=>l.length-k) 0 ?_ ?_ ?_
  ·exact⟨uJ _,λ x hx=>by rw[yY]at hx;cases hx⟩
  ·exact kN (kc2 @yY.{0} @List.sum_nil.{0}) []
  ·rintro k ⟨hk,hinv⟩;have hb:=ZsH hinv;rw[uS,jA hk]at hb;rcases uF k l.length with hlt|hge
   ·obtain⟨x,hx⟩:=Zad hlt;have e1:=Zy8 hx;by_cases c:0<=x/\x<=1048576
    ·obtain⟨c1,c2⟩:=c;refine kw1 kO (kc1 hx) kc0 ?_;refine⟨k+1,?_,kN (kc1 e1) [],?_⟩
     ·refine⟨by omega,λ y hy=>?_⟩;rw[ZaD hx]at hy;rcases yN.1 hy with hy|hy
      ·exact hinv y hy
      ·rw[uR.1 hy,ZeY,yM ⟨c1,c2⟩]
     ·omega
    ·rw[ZrZ hx (by rw[ZeY,yC c]),Bool.and_false,if_neg (by decide),if_neg (by decide)];refine kw kO (kc1 hx) kc0 ?_
     repeat' first|exact True.intro|refine Bn.mk ?_ ?_|intro hc
     all_goals exact⟨_,rfl,Zah rfl,Zah rfl,trivial⟩
   ·have:k=l.length:=by omega
    subst this;rw[all_take hinv,yM hl,kK,if_pos rfl,if_pos rfl];refine kw1 kO kc0 kc0 ?_;refine⟨_,rfl,Zah ?_,Zah rfl,trivial⟩;rw[yI]
 ·rw[yC hl,Ck,if_neg (by decide),if_neg (by decide)];have hl2:=Zbb 0 hat rfl;rw[uE]at hl2;refine kw1 kO kc0 kc0 ?_;exact⟨_,rfl,Zah rfl,Zah rfl,trivial⟩
theorem ZoR (a:Int):Zaa Tryz.prog 282 [.int a] (.bool false):=by
 refine kE Tryz.func282 ?_;intro hat B X w0;refine kw1 kO kc0 kc0 ?_;exact Zaj (by simp)
theorem Zk1 (a b:Int):Zaa Tryz.prog 264 [.int a, .int b] (.int (sg a b)):=by
 have h1:=ZoR a;have h2:=ZoR b;rw[sg];refine kE Tryz.func264 ?_;intro hat B X w0;by_cases c1:a<b
 ·rw[if_pos c1];refine kw1 kO (kc1 c1) (kc2 h1 h2) ?_;exact Zah rfl
 ·rw[if_neg c1];by_cases c2:b<a
  ·rw[if_pos c2];refine kw1 kO (kc2 c1 c2) (kc2 h1 h2) ?_;exact Zah rfl
  ·rw[if_neg c2];refine kw1 kO (kc2 c1 c2) (kc2 h1 h2) ?_;exact Zah rfl
theorem Zpm (n:Nat):(if(1:Int)<n then(1:Int)else(n:Int))=((min n 1:Nat):Int):=by split<;>omega
theorem Zsn (a b:List Int):Zaa Tryz.prog 246 [Zac a,Zac b] (.int (ZbR a b)):=by
 have h1:=ZnH a;have h2:=ZnH b;have h4:=Zk1 (Zba a*ZaB b) (Zba b*ZaB a);have p1:=Zp0 a b;have p2:=Zp0 b a;rw[ZbR];have m1:=Zpm (ZaB a);have m2:=Zpm (ZaB b);have z0:((min 0 1:Nat):Int)=0:=rfl;generalize Zba a=S at*;generalize Zba b=T at*;generalize ZaB a=j at*;generalize ZaB b=k at*;refine kE Tryz.func246 ?_;intro hat B X w0;by_cases c1:j=0
 ·rw[if_pos (.inl c1),c1,z0];rw[c1]at h1;have h3:=Zk1 0 ((min k 1:Nat):Int);have q1:((0:Nat):Int)=0:=rfl;refine kw1 kO (kc2 q1 m2) (kc3 h1 h2 h3) ?_;exact Zah rfl
 ·by_cases c2:k=0
  ·rw[if_pos (.inr c2),c2,z0];rw[c2]at h2;have h3:=Zk1 ((min j 1:Nat):Int) 0;have q1:((0:Nat):Int)=0:=rfl;have c1I:¬(j:Int)=0:=by omega
   refine kw1 kO (kc3 q1 m1 c1I) (kc3 h1 h2 h3) ?_;exact Zah rfl
  ·rw[if_neg (by omega)];refine kw1 kO kc0 (kc3 h1 h2 h4) ?_;exact Zah rfl
theorem ZsC (u v:Int)(a b:List Int):Zaa Tryz.prog 245 [.ag [.int u,Zac a], .ag [.int v,Zac b]] (.int (ZbR a b)):=by
 have h1:=Zsn a b;refine kE Tryz.func245 ?_;intro hat B X w0;refine kw1 kO kc0 (kc1 h1) ?_;exact Zah rfl
theorem ZmP {a:Lv}(h:Zay a=true){v:Int}(hv:v∈a.2.1.flatten):0<=v/\v<tot a.2.1:=by
 obtain⟨_,_,hr⟩:=ZiV h;obtain⟨_,_,hg,_⟩:=Zj0 hr;exact(ZfP.1 hg).1 v hv
theorem Zr5 {a:Lv}(h:Zay a=true){x:Arc}(hx:x∈a.2.2.1):x.1≠x.2/\(0<=x.1/\x.1<tot a.2.1)/\(0<=x.2/\x.2<tot a.2.1):=by
 obtain⟨k,hk⟩:=yW hx;obtain⟨r,p,q,h1,h2⟩:=ZmO h hk;refine⟨λ e=>?_,ZmP h h1.mem,ZmP h h2.mem⟩;rw[<-e]at h2;have:=Zb2.layer (ZeB h) h1 h2;omega
theorem Zwq {z:List Int}{ar:List Arc}{v:Int}{k:Nat}{x:Arc}(h:ar[k]? =some x):Zbr z (ar.take (k+1)) v=Zbr z (ar.take k) v++ZiJ z v x:=by
 rw[Zbr,Zbr,ZaD h,List.flatMap_append,gE,Ai,yO]
theorem ZsE (a:Lv)(v:Int)(z pl:List Int)(har:a.2.2.1.length<=1000)(hpl:∀u:Int,0<=u->u<pl.length->pl[u.toNat]? =some (placeF z u))
  (hx:∀x,x∈a.2.2.1->x.1≠x.2/\(0<=x.1/\x.1<pl.length)/\(0<=x.2/\x.2<pl.length)):
  Zaa Tryz.prog 243 [lvD a, .int v,Zac pl] (Zac (Zbr z a.2.2.1 v)):=by
 obtain⟨n,ls,ar,cs⟩:=a;dsimp only at har hx|-;refine kE Tryz.func243 ?_;intro hat B X w0;refine kw1 kO kc0 kc0 ?_;refine Zau _ (Zd5 7 901 1 rfl rfl) ?_;refine Zai (λ(k:Nat)=>k<=ar.length) (λ k=>[(1, .int v),(2, .d (Zac pl)),(7, .ref 901 1 0 (Zbr z (ar.take k) v).length (Zbr z (ar.take k) v).length),(11, .d (Zak ar)),(12, .int ar.length),(13, .int k)]) (λ k=>[(901, .row 1 ((Zbr z (ar.take k) v).map D.int))]) (λ k=>ar.length-k) 0 ?_ ?_ ?_
 ·exact uJ _
 ·exact kN (kc5 @yY.{0} @Zbr.eq_1 @Ai.{0,0} @yT.{0,0} @uY.{0}) []
 ·intro k hk;have hRl:=ZpX z v (ar.take k);rw[uS,jA hk]at hRl;rcases uF k ar.length with hlt|hge
  ·obtain⟨x,hxk⟩:=Zad hlt;obtain⟨hne,⟨b1,b2⟩,⟨b3,b4⟩⟩:=hx x (uA hxk);have g1:=hpl x.1 b1 b2;have g2:=hpl x.2 b3 b4;have e1:=Zwq (z:=z) (v:=v) hxk;rw[ZiJ]at e1;generalize Zbr z (ar.take k) v=R at*;generalize placeF z x.1=q1 at*;generalize placeF z x.2=q2 at*;obtain⟨s,t⟩:=x;dsimp only at*;have htl:(R.map D.int).take R.length=R.map D.int:=Zat _ _;have i1:s.toNat<pl.length:=by omega
   have i2:t.toNat<pl.length:=by omega
   by_cases c1:s=v/\0<=q2
   ·obtain⟨c1,c2⟩:=c1;have c3:¬t=v:=λ e=>hne (c1.trans e.symm)
    rw[if_pos ⟨c1,c2⟩,if_neg (λ h=>c3 h.1),yO]at e1;refine kw1 kO (kc8 hxk g1 g2 i1 i2 b1 b2 (kc6 b3 b4 c1 c2 c3 htl)) kc0 ?_;refine⟨k+1,?_,kN (kc8 e1 @yB.{0,0} @uX.{0,0} @yT.{0,0} @uC.{0} @uV.{0} @uY.{0} (kc2 @qO htl)) [(901,36)],?_⟩
    ·omega
    ·omega
   ·by_cases c4:t=v/\0<=q1
    ·obtain⟨c4,c5⟩:=c4;have c3:¬s=v:=λ e=>hne (e.trans c4.symm)
     rw[if_neg c1,if_pos ⟨c4,c5⟩,gF]at e1;refine kw1 kO (kc8 hxk g1 g2 i1 i2 b1 b2 (kc6 b3 b4 c3 c4 c5 htl)) kc0 ?_;refine⟨k+1,?_,kN (kc8 e1 @yB.{0,0} @uX.{0,0} @yT.{0,0} @uC.{0} @uV.{0} @uY.{0} (kc2 @qO htl)) [(901,56)],?_⟩
     ·omega
     ·omega
    ·rw[if_neg c1,if_neg c4,gF,yO]at e1;refine kw kO (kc8 hxk g1 g2 i1 i2 b1 b2 (kc3 b3 b4 htl)) kc0 ?_
     repeat' first|exact True.intro|refine Bn.mk ?_ ?_|intro hc
     all_goals
      refine⟨k+1,?_,kN (kc1 e1) [],?_⟩
      ·omega
      ·omega
  ·have:k=ar.length:=by omega
   subst this;rw[yI]at hRl|-;refine kw1 kO kc0 kc0 ?_;exact Zda (o:=901) rfl rfl (by simp) (Zat _ _)
theorem Zqp {g:Nat->Int}{n j:Nat}{x:Int}:(ZaX g n).set j x=ZaX (λ u=>if u=j then x else g u) n:=by
 refine qL λ v=>?_
 rw[qD,ZdJ];by_cases c:v<n
 ·rw[Ze2 c,Ze2 c];by_cases c2:j=v
  ·subst c2;rw[if_pos rfl,if_pos c,if_pos rfl]
  ·rw[if_neg c2,if_neg (λ h=>c2 h.symm)]
 ·rw[uP (by rw[ZdJ];omega),uP (by rw[ZdJ];omega)];by_cases c2:j=v
  ·rw[if_pos c2,if_neg (by omega)]
  ·rw[if_neg c2]
theorem Zwm {z:List Int}(hn:z.Nodup){k:Nat}{v:Int}(h:z[k]? =some v)(u:Int):placeF (z.take (k+1)) u=if u=v then(k:Int)else placeF (z.take k) u:=by
 have hn1:(z.take (k+1)).Nodup:=hn.sublist (jK _ _);have hn0:(z.take k).Nodup:=hn.sublist (jK _ _);by_cases c:u=v
 ·subst c;rw[if_pos rfl];exact Zhy hn1 (by rw[qC,if_pos (by omega)];exact h)
 ·rw[if_neg c];by_cases c2:u∈z.take k
  ·obtain⟨j,hj⟩:=yW c2;rw[Zhy hn0 hj];have hjk:j<k:=by have:=(uB.1 hj).1;rw[uS]at this;omega
   refine Zhy hn1 ?_;rw[qC,if_pos hjk]at hj;rw[qC,if_pos (by omega)];exact hj
  ·rw[ZiH c2,ZiH];rw[ZaD h];intro hm;rcases yN.1 hm with hm|hm
   ·exact c2 hm
   ·exact c (uR.1 hm)
def Ze0 (y z:List Int)(ar:List Arc)(q:Nat):List Int:=ZaX (λ k=>if Zcu y z ar k=true/\(Za8 y z ar k).length<q then at0 y (((Zez y z ar)[(Za8 y z ar k).length]?).getD 0:Nat)else at0 y k) y.length
theorem Zv3 (y z:List Int)(ar:List Arc)(q:Nat):(Ze0 y z ar q).length=y.length:=ZdJ _ _
theorem Zv5 (y z:List Int)(ar:List Arc):Ze0 y z ar 0=y:=by
 have:Ze0 y z ar 0=ZaX (λ k:Nat=>at0 y k) y.length:=Zf2 λ k _=>if_neg (by omega)
 rw[this];refine qL λ k=>?_
 by_cases c:k<y.length
 ·rw[Ze2 c,ZaS c]
 ·rw[uP (by rw[ZdJ];omega),uP (by omega)]
theorem Zv2 (y z:List Int)(ar:List Arc):Ze0 y z ar (Za8 y z ar y.length).length=ZeZ y z ar:=by
 refine yE λ k hk=>?_
 rw[yD]at hk;rcases c:Zcu y z ar k with _|_
 ·simp
 ·have:=(uB.1 (Zhk hk c)).1;simp[this]
theorem Zv4 {y z:List Int}{ar:List Arc}{q j t:Nat}(hj:(Za8 y z ar y.length)[q]? =some j)(ht:(Zez y z ar)[q]? =some t):(Ze0 y z ar q).set j (at0 y t)=Ze0 y z ar (q+1):=by
 have h1:=Zlk (uA hj);have h2:=Zhk h1.1 h1.2;have hq:(Za8 y z ar j).length=q:=by
  exact(Zpy ((Zie y z ar y.length).imp λ h=>Ci h) hj h2).symm
 rw[Ze0,Zqp];refine Zf2 λ k hk=>?_
 by_cases c:k=j
 ·subst c;rw[if_pos rfl,if_pos ⟨h1.2,by omega⟩,hq,ht];rfl
 ·rw[if_neg c];by_cases c2:Zcu y z ar k=true
  ·have:(Za8 y z ar k).length≠q:=λ e=>c (Zoy hk h1.1 c2 h1.2 (by omega))
   by_cases c3:(Za8 y z ar k).length<q
   ·rw[if_pos ⟨c2,c3⟩,if_pos ⟨c2,by omega⟩]
   ·rw[if_neg (λ h=>c3 h.2),if_neg (λ h=>by have:=h.2;omega)]
  ·rw[if_neg (λ h=>c2 h.1),if_neg (λ h=>c2 h.1)]
theorem Zoz (y z:List Int)(ar:List Arc):∀n,(Za8 y z ar n).length<=n
 |0=>by simp[Za8]
 |n+1=>by
  have:=Zoz y z ar n;rw[Zjx];split
  ·rw[uC,qN];omega
  ·omega
theorem ZpK (a:Lv)(i f:Nat)(hw:wide a)(hv:Zay a=true)(har:a.2.2.1.length<=700)(hi:i<a.2.1.length)(hf:f<a.2.1.length):
  Zaa Tryz.prog 215 [lvD a, .int i, .int f] (lvD (ZgK a i f)):=by
 obtain⟨y,hy⟩:=Zad hi;obtain⟨z,hz⟩:=Zad hf;have hyn:=Zin hv hy;have hzn:=Zin hv hz;obtain⟨t1,t2⟩:=Zcv hv;have hyl:=ZcV (uA hy);have hzl:=ZcV (uA hz);have hzr:∀(k:Nat) v,z[k]? =some v->0<=v/\v<tot a.2.1:=λ k v hk=>ZmP hv (Al.2 ⟨z,uA hz,uA hk⟩)
 have hpl:∀v,Zaa Tryz.prog 243 [lvD a, .int v,Zac (ZaX (λ u:Nat=>placeF z u) (tot a.2.1))] (Zac (Zbr z a.2.2.1 v)):=λ v=>
  ZsE a v z _ (by omega) (λ u h0 h1=>by
   rw[ZdJ]at h1;rw[Ze2 (by omega),show((u.toNat:Nat):Int)=u by omega]) (λ x hx=>by
   rw[ZdJ];exact Zr5 hv hx)
 have hre:=Zm8 a i (ZeZ y z a.2.2.1) hw (by rw[Zv1];omega);rw[Zme hv hy (ZpI hyn z a.2.2.1)]at hre;have hlay:ZgK a i f=ZbO a i (ZeZ y z a.2.2.1):=by rw[ZgK,Zc8 hy,Zc8 hz]
 rw[<-hlay]at hre;have hcl:=Zs9 y (by omega);have hFl:=Zoz y z a.2.2.1;have hbk:(Za8 y z a.2.2.1 y.length).Pairwise (ZcX (λ j k:Nat=>ZbR (Zbr z a.2.2.1 (at0 y j)) (Zbr z a.2.2.1 (at0 y k))) (Zfp λ k:Nat=>Zbr z a.2.2.1 (at0 y k))):=by
  refine List.Pairwise.imp ?_ (Zie y z a.2.2.1 y.length);intro j k h;exact Zv7 (p:=λ k:Nat=>Zbr z a.2.2.1 (at0 y k)) h
 have hso:=ZrQ (λ k:Nat=>at0 y k) (λ k:Nat=>(Zbr z a.2.2.1 (at0 y k)).map D.int) 245 (λ j k:Nat=>ZbR (Zbr z a.2.2.1 (at0 y j)) (Zbr z a.2.2.1 (at0 y k))) (Zfp λ k:Nat=>Zbr z a.2.2.1 (at0 y k)) (ZpJ _)
  (λ j k=>ZsC _ _ _ _) (Za8 y z a.2.2.1 y.length) (Zez y z a.2.2.1) hbk ((Zie y z a.2.2.1 y.length).imp λ h=>Ci h)
  (Zka y z a.2.2.1) (ZyG (Zie y z a.2.2.1 y.length)) (by have:=hFl y.length;omega)
 have hSl:=ZqQ y z a.2.2.1;have hO0:=Zv5 y z a.2.2.1;have hOf:=Zv2 y z a.2.2.1;have hOl:=Zv3 y z a.2.2.1;have hOs:∀q j t:Nat,(Za8 y z a.2.2.1 y.length)[q]? =some j->(Zez y z a.2.2.1)[q]? =some t->(Ze0 y z a.2.2.1 q).set j (at0 y t)=Ze0 y z a.2.2.1 (q+1):=λ q j t=>Zv4
 have hFs:=Zjx y z a.2.2.1;have hF0:Za8 y z a.2.2.1 0=[]:=rfl;have hFm:∀q j:Nat,(Za8 y z a.2.2.1 y.length)[q]? =some j->j<y.length:=λ q j h=>(Zlk (uA h)).1
 have hH:∀k:Nat,Zcu y z a.2.2.1 k=decide (0<(Zbr z a.2.2.1 (at0 y k)).length):=λ k=>by
  rw[Zcu];cases Zbr z a.2.2.1 (at0 y k)<;>simp
 obtain⟨C,hC⟩:∃C,C=tot a.2.1:=⟨_,rfl⟩;rw[<-hC]at hpl hzr t2;clear hlay hbk;generalize ZgK a i f=PP at*;generalize hPQ:(λ k:Nat=>Zbr z a.2.2.1 (at0 y k))=PQ at*;have hPQe:∀k:Nat,Zbr z a.2.2.1 (at0 y k)=PQ k:=λ k=>by rw[<-hPQ]
 have hplk:∀k:Nat,Zaa Tryz.prog 243 [lvD a, .int (at0 y k),Zac (ZaX (λ u:Nat=>placeF z u) C)] (Zac (PQ k)):=λ k=>by rw[<-hPQe];exact hpl _
 simp only[hPQe]at hso hH;clear hpl hPQ hPQe;generalize Za8 y z a.2.2.1=F at*;generalize Zez y z a.2.2.1=T at*;generalize Ze0 y z a.2.2.1=ON at*;generalize ZeZ y z a.2.2.1=OBv at*;simp only[hH]at hFs;clear hH;obtain⟨n',ls',ar',cs'⟩:=PP;obtain⟨n,ls,ar,cs⟩:=a;dsimp only at*;have htk:=Zre ls;refine kE Tryz.func215 ?_;intro hat B X w0;refine kw1 kO kc0 kc0 ?_;refine Zai (λ(k:Nat)=>k<=ls.length) (λ k=>[(1, .int i),(2, .int f),(3, .ptr 3 0 0 0),(6, .ptr 6 0 0 0),(7, .int (tot (ls.take k))),(25, .d (Zae ls)),(26, .int ls.length),(27, .int k)]) (λ k=>[(3, .cells [.int n, .d (Zae ls), .d (Zak ar), .d (Zae cs)]),(6, .cells [.int 0, .nilS, .nilS, .nilS])]) (λ k=>ls.length-k) 0 ?_ ?_ ?_
 ·exact uJ _
 ·exact kN (kc2 @yY.{0} @tot.eq_1) []
 ·intro k hk;have hle:=htk k;rcases uF k ls.length with hlt|hge
  ·obtain⟨x,hx⟩:=Zad hlt;have e1:=Zrd hx;have hle2:=htk (k+1);refine kw1 kO (kc1 hx) kc0 ?_;refine⟨k+1,?_,kN (kc2 e1 @qI) [],?_⟩
   ·omega
   ·omega
  ·have:k=ls.length:=by omega
   subst this
   try dsimp only
   rw[yI,<-hC];have hz0:List.replicate C (D.int 0)=(Zci (λ _=>0) (λ _=>-1) C 0).map D.int:=by rw[Zpq,Zqq]
   refine kw1 kO kc0 kc0 ?_;refine Zai (λ(k:Nat)=>k<=C) (λ k=>[(1, .int i),(2, .int f),(3, .ptr 3 0 0 0),(6, .ptr 6 0 0 0),(10, .ref 37 1 0 C C),(39, .int C),(40, .int k)]) (λ k=>[(3, .cells [.int n, .d (Zae ls), .d (Zak ar), .d (Zae cs)]),(6, .cells [.int 0, .nilS, .nilS, .nilS]),(37, .row 1 ((Zci (λ _=>0) (λ _=>-1) C k).map D.int))]) (λ k=>C-k) 0 ?_ ?_ ?_
   ·exact uJ _
   ·exact kN (kc1 hz0) []
   ·intro k hk;have hml:=Ziv (λ _=>0) (λ _=>-1) C k;rcases uF k C with hlt|hge
    ·have hg:(Zci (λ _=>0) (λ _=>-1) C k)[k]? =some 0:=Zpo hlt;have hs2:((Zci (λ _=>0) (λ _=>-1) C k).map D.int).set k (D.int (-1))=(Zci (λ _=>0) (λ _=>-1) C (k+1)).map D.int:=by rw[<-Zpp hlt,yR]
     refine kw1 kO (kc3 hg hml hs2) kc0 ?_;refine⟨k+1,?_,kN (kc1 hs2) [],?_⟩
     ·omega
     ·omega
    ·have:k=C:=by omega
     subst this;have hz1:Zci (λ _=>0) (λ _=>-1) k k=ZaX (λ u:Nat=>placeF (z.take 0) u) k:=by rw[Zpn];exact Zf2 λ v _=>rfl
     try dsimp only
     rw[hz1];refine kw1 kO (kc1 hz) kc0 ?_;refine Zai (λ(j:Nat)=>j<=z.length) (λ j=>[(1, .int i),(3, .ptr 3 0 0 0),(6, .ptr 6 0 0 0),(10, .ref 37 1 0 k k),(51, .d (Zac z)),(52, .int z.length),(53, .int j)]) (λ j=>[(3, .cells [.int n, .d (Zae ls), .d (Zak ar), .d (Zae cs)]),(6, .cells [.int 0, .nilS, .nilS, .nilS]),(37, .row 1 ((ZaX (λ u:Nat=>placeF (z.take j) u) k).map D.int))]) (λ j=>z.length-j) 0 ?_ ?_ ?_
     ·exact uJ _
     ·exact kN kc0 []
     ·intro j hj;have hml:=ZdJ (λ u:Nat=>placeF (z.take j) u) k;rcases uF j z.length with hlt|hge
      ·obtain⟨v,hv1⟩:=Zad hlt;obtain⟨v1,v2⟩:=hzr j v hv1;obtain⟨v,rfl⟩:∃m:Nat,v=m:=⟨v.toNat,by omega⟩;have hg:(ZaX (λ u:Nat=>placeF (z.take j) u) k)[v]? =some (placeF (z.take j) v):=Ze2 (by omega);have hs1:(ZaX (λ u:Nat=>placeF (z.take j) u) k).set v (j:Int)=ZaX (λ u:Nat=>placeF (z.take (j+1)) u) k:=by
        rw[Zqp];refine Zf2 λ u hu=>?_
        rw[Zwm hzn hv1];by_cases c:u=v
        ·subst c;rw[if_pos rfl,if_pos rfl]
        ·rw[if_neg c,if_neg (by omega)]
       have hs2:((ZaX (λ u:Nat=>placeF (z.take j) u) k).map D.int).set v (D.int j)=(ZaX (λ u:Nat=>placeF (z.take (j+1)) u) k).map D.int:=by rw[<-hs1,yR]
       refine kw1 kO (kc4 hv1 hg hml hs2) kc0 ?_;refine⟨j+1,?_,kN (kc1 hs2) [],?_⟩
       ·omega
       ·omega
      ·have:j=z.length:=by omega
       subst this
       try dsimp only
       rw[yI];refine Zau _ (Zc2 37 1 ((ZaX (λ u:Nat=>placeF z u) k).map D.int) rfl (ZcP _ rfl) (by decide)) ?_;have htl:((ZaX (λ u:Nat=>placeF z u) k).map D.int).take k=(ZaX (λ u:Nat=>placeF z u) k).map D.int:=uD (by rw[uE,ZdJ];exact uH _);have hPl:=ZdJ (λ u:Nat=>placeF z u) k;refine kw1 kO (kc4 hy htl hPl @qS.{0}) (kc1 (kmc [(2000,903)] hcl)) ?_;refine Zau _ (Zd5 15 901 1 rfl rfl) ?_;refine Zau _ (Zd5 16 902 2 rfl rfl) ?_;refine Zai (λ(q:Nat)=>q<=y.length) (λ q=>[(1, .int i),(3, .ptr 3 0 0 0),(6, .ptr 6 0 0 0),(10, .d (Zac (ZaX (λ u:Nat=>placeF z u) k))),(14, .ref 903 1 0 y.length y.length),(15, .ref 901 1 0 (F q).length (F q).length),(16, .ref 902 2 0 (F q).length (F q).length),(69, .ref 903 1 0 y.length y.length),(70, .int y.length),(71, .int q)]) (λ q=>[(3, .cells [.int n, .d (Zae ls), .d (Zak ar), .d (Zae cs)]),(6, .cells [.int 0, .nilS, .nilS, .nilS]),(901, .row 1 ((F q).map Zaw)),(902, .row 2 ((F q).map (elD (λ k:Nat=>at0 y k) λ k=>(PQ k).map D.int))),(903, .row 1 (y.map D.int))]) (λ q=>y.length-q) 0 ?_ ?_ ?_
       ·exact uJ _
       ·exact kN (kc6 hF0 @yT.{0,0} @uY.{0} htl hPl @uH) []
       ·intro q hq;have hql:=hFl q;rcases uF q y.length with hlt|hge
        ·have gq:=ZaS (r:=y) (i:=q) hlt;have hp:=hplk q;have e1:=hFs q;have h1:((F q).map Zaw).take (F q).length=(F q).map Zaw:=Zat _ _;have h2:((F q).map (elD (λ k:Nat=>at0 y k) λ k=>(PQ k).map D.int)).take (F q).length=(F q).map (elD (λ k:Nat=>at0 y k) λ k=>(PQ k).map D.int):=Zat _ _;by_cases c:0<(PQ q).length
         ·rw[yM c,if_pos rfl]at e1
          repeat' first|refine ZbD rfl ?_|refine Za1 ?_|refine wR ?_|(refine rc (hp) rfl ?_ ?_;(· first|rfl|simp(disch:=omega) only[go_sem,simprocAttr,gq,c,h1,h2,roomy]))|(refine ZbF rfl rfl (λ hc=>?_) (λ hc=>?_)<;>try simp only[hcL]at hc)|(refine ZbC _ rfl rfl (λ hc=>?_) (λ hc=>?_)<;>(try simp only[hcL]at hc)<;>try omega)|simp(disch:=omega) only[go_sem,simprocAttr,gq,c,h1,h2,roomy]|(first|exact ZfY _|exact λ d hd=>by rw[uR.1 hd];rfl)|apply And.intro|omega|decide+kernel
          refine⟨q+1,?_,kN (kc8 e1 h1 h2 @yB.{0,0} @uX.{0,0} @yT.{0,0} @uC.{0} (kc3 @uV.{0} @uY.{0} @qO)) [(901,86),(902,92)],?_⟩
          ·omega
          ·omega
         ·rw[yC c,if_neg (by decide)]at e1;refine kw1 kO (kc2 gq c) (kc1 hp) ?_;refine⟨q+1,?_,kN (kc1 e1) [],?_⟩
          ·omega
          ·omega
        ·have:q=y.length:=by omega
         subst this;refine kw1 kO kc0 (kc1 (kmc [(1000,902)] hso)) ?_;refine Zai (λ(q:Nat)=>q<=(F y.length).length) (λ q=>[(1, .int i),(3, .ptr 3 0 0 0),(6, .ptr 6 0 0 0),(14, .ref 903 1 0 y.length y.length),(15, .ref 901 1 0 (F y.length).length (F y.length).length),(96, .ref 902 2 0 (F y.length).length (F y.length).length),(97, .int (F y.length).length),(98, .int q)]) (λ q=>[(3, .cells [.int n, .d (Zae ls), .d (Zak ar), .d (Zae cs)]),(6, .cells [.int 0, .nilS, .nilS, .nilS]),(901, .row 1 ((F y.length).map Zaw)),(902, .row 2 (T.map (elD (λ k:Nat=>at0 y k) λ k=>(PQ k).map D.int))),(903, .row 1 ((ON q).map D.int))]) (λ q=>(F y.length).length-q) 0 ?_ ?_ ?_
         ·exact uJ _
         ·exact kN (kc1 hO0) []
         ·intro q hq;have hol:=hOl q;rcases uF q (F y.length).length with hlt|hge
          ·obtain⟨j,hj⟩:=Zad hlt;obtain⟨t,ht⟩:=Zad (l:=T) (k:=q) (by omega);have hjy:=hFm q j hj;have hs1:=hOs q j t hj ht;obtain⟨w,hw1⟩:=Zad (l:=ON q) (k:=j) (by omega);have hs2:((ON q).map D.int).set j (D.int (at0 y t))=(ON (q+1)).map D.int:=by rw[<-hs1,yR]
           refine kw1 kO (kc6 hj ht hw1 hol hSl hs2) kc0 ?_;refine⟨q+1,?_,kN (kc1 hs2) [],?_⟩
           ·omega
           ·omega
          ·have:q=(F y.length).length:=by omega
           subst this
           try dsimp only
           rw[hOf]at hol|-;refine Zau _ (Zc2 903 1 (OBv.map D.int) rfl (ZcP _ rfl) (by decide)) ?_;have htl2:(OBv.map D.int).take y.length=OBv.map D.int:=by rw[<-hol];exact Zat _ _
           refine kw1 kO (kc3 htl2 hol @qS.{0}) (kc1 hre) ?_;refine⟨_,_,_,_,rfl,?_⟩;simp(disch:=omega) only[go_sem,simprocAttr,toD]
end Go.Proofs.YtjjbhjnpeenbkaaGreatDoor
