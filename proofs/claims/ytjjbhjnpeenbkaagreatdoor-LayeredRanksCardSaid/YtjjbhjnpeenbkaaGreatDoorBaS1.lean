/- Stable sorting: exchanging two stretches of a row. -/
import Derived.Test.YtjjbhjnpeenbkaaGreatDoorTypes
import Derived.Test.YtjjbhjnpeenbkaaGreatDoorPSCmp
import Derived.Test.YtjjbhjnpeenbkaaGreatDoorPSEnd
import Derived.Test.YtjjbhjnpeenbkaaGreatDoorStM
set_option linter.unusedSimpArgs false
set_option linter.unusedVariables false
set_option maxHeartbeats 16000000
namespace Go.Proofs.YtjjbhjnpeenbkaaGreatDoor
open Go Go.PS Go.Proofs
set_option maxRecDepth 100000
attribute [local irreducible] Zad wpG Zaa Zah
abbrev elD (v:Nat->Int)(p:Nat->List D)(k:Nat):D:= .ag [.int (v k), .sl (p k)]
theorem Ztz {α:Type}(A:List α)(u w:α)(C:List α):(A++u::C).set A.length w=A++w::C:=by
 rw[Cg,if_neg (Nat.lt_irrefl _),jF];rfl
theorem ZqX {α:Type}(A:List α)(u:α)(C:List α):(A++u::C)[A.length]? =some u:=by
 rw[qG (uI _),jF];rfl
theorem ZmX {α:Type}{l:List α}{i:Nat}{u:α}(h:l[i]? =some u):l.drop i=u::l.drop (i+1):=by
 obtain⟨hl,rfl⟩:=uB.1 h;exact qS hl
open Go.Stb
def ZhA (c:Nat->Nat->Int)(R:Nat->Nat->Prop)(s x:Nat):Prop:=c x s<0↔R x s
theorem Zvz {c:Nat->Nat->Int}{R:Nat->Nat->Prop}{M:List Nat}(h:M.Pairwise (ZhA c R)){k x s:Nat}(hx:M[k]? =some x)(hs:s∈M.take k):ZhA c R s x:=by
 rw[<-gI k M]at h;exact(gH.1 h).2.2 s hs x (by rw[ZmX hx];simp)
theorem Zzm {M:List Nat}(h:M.Nodup){k x s:Nat}(hx:M[k]? =some x)(hs:s∈M.take k):s≠x:=by
 rw[<-gI k M,kV]at h;exact h.2.2 s hs x (by rw[ZmX hx];simp)
theorem Zyh (v:Nat->Int)(p:Nat->List D)(g:Nat)(c:Nat->Nat->Int)(R:Nat->Nat->Prop)(hR:Ord R)(hcmp:∀j k,Zaa Tryz.prog g [elD v p j,elD v p k] (.int (c j k)))
  (P M Q T:List Nat)(hb:M.Pairwise (ZhA c R))(hnd:M.Nodup)(hT:T.Perm M)(hTs:T.Pairwise R)(N:Nat)(hN:P.length+M.length+Q.length=N)(hN1:N<=1000000)(a e:Int)(ha:a=P.length)(he:e=(P.length+M.length:Nat)):
  Zah Tryz.prog 280 [.ref 1000 2 0 N N, .int a, .int e, .d (.fn g [])] [(1000, .row 2 ((P++M++Q).map (elD v p)))] (.tup []) [(1000, .row 2 ((P++T++Q).map (elD v p)))]:=by
 subst ha he;obtain⟨A,hA⟩:∃A,A=P.length:=⟨_,rfl⟩;rw[<-hA];refine kM Tryz.func280 ?_;intro B X w0;refine Zdi ?_;refine kw1 kO kc0 kc0 ?_;refine Zae (λ(q:Nat×List Nat)=>match q with|(k,S)=>1<=k/\k<=M.length+1/\S.Pairwise R/\S.Perm (M.take k)) (λ(k,S)=>[(0, .ref 1000 2 0 N N),(1, .int A),(2, .int ((A+M.length:Nat):Int)),(3, .d (.fn g [])),(8, .int ((A+k:Nat):Int))]) (λ(k,S)=>[(1000, .row 2 ((P++S++M.drop k++Q).map (elD v p)))]) (λ(k,S)=>M.length+1-k) (1,M.take 1) ?_ ?_ ?_
 ·refine⟨uI _,by omega,?_,List.Perm.refl _⟩;rcases M with _|⟨x,M⟩
  ·exact List.Pairwise.nil
  ·exact zJ _ _
 ·have e0:P++M.take 1++M.drop 1++Q=P++M++Q:=by rw[qJ P,gI]
  exact kN (kc3 e0 @qQ @gY) []
 ·rintro⟨k,S⟩ ⟨hk1,hk2,hSs,hSp⟩;dsimp only at hk1 hk2 hSs hSp|-;have hSl:=hSp.length_eq;rw[yF]at hSl;rcases uC k M.length with hlt|hge
  ·obtain⟨x,hx⟩:=Zac hlt;have hdr:=ZmX hx;have hSx:∀s,s∈S->ZhA c R s x/\s≠x:=λ s hs=>⟨Zvz hb hx (hSp.mem_iff.1 hs),Zzm hnd hx (hSp.mem_iff.1 hs)⟩
   generalize hQ2:M.drop (k+1)++Q=Q2 at*;have hQl:Q2.length+k+1=M.length+Q.length:=by rw[<-hQ2,uH,Af];omega
   refine kw1 kO kc0 kc0 ?_;refine Zae (λ(q:List Nat×List Nat)=>match q with|(S1,S2)=>S1++S2=S/\(∀s,s∈S2->R x s)) (λ(S1,S2)=>[(0, .ref 1000 2 0 N N),(1, .int A),(2, .int ((A+M.length:Nat):Int)),(3, .d (.fn g [])),(8, .int ((A+k:Nat):Int)),(9, .int ((A+S1.length:Nat):Int))]) (λ(S1,S2)=>[(1000, .row 2 ((P++S1++x::(S2++Q2)).map (elD v p)))]) (λ(S1,S2)=>S1.length) (S,[]) ?_ ?_ ?_
   ·exact⟨yT _,λ s hs=>by cases hs⟩
   ·have e0:P++S++M.drop k++Q=P++S++x::Q2:=by rw[hdr,<-hQ2];simp
    have e1:S.length=k:=by omega
    exact kN (kc3 e0 e1 @gL.{0}) []
   ·rintro⟨S1,S2⟩ ⟨hSS,hS2⟩;dsimp only at hSS hS2|-;have hl0:S1.length+S2.length=k:=by
     have:=gB List.length hSS;rw[uH]at this;omega
    have hdone:S1=[]\/(∃S3 s,S1=S3++[s]):=by
     rcases List.eq_nil_or_concat S1 with h|⟨l,z,h⟩
     ·exact .inl h
     ·exact .inr ⟨l,z,by rw[h,List.concat_eq_append]⟩
    have hfin:(∀s,s∈S1->R s x)->(S1++x::S2).Pairwise R/\(S1++x::S2).Perm (M.take (k+1)):=λ h=>by
     refine⟨Zyd hR (by rw[hSS];exact hSs) h hS2,?_⟩;rw[ZaA hx];refine Be.trans ?_;rw[hSS];exact(List.perm_append_comm (l₁:=[x]) (l₂:=S)).trans (hSp.append_right [x])
    have hrow:P++S1++x::(S2++Q2)=P++(S1++x::S2)++M.drop (k+1)++Q:=by rw[<-hQ2];simp
    have hkk:((A+k:Nat):Int)+1=((A+(k+1):Nat):Int):=by omega
    rcases hdone with rfl|⟨S3,s,rfl⟩
    ·obtain⟨f1,f2⟩:=hfin (λ s hs=>by cases hs);have z0:A+([]:List Nat).length=A:=rfl;rw[z0];refine kw1 kO kc0 kc0 ?_;have hrow0:P++x::(S2++Q2)=P++x::S2++M.drop (k+1)++Q:=by rw[<-hQ2];simp
     refine⟨(k+1,x::S2),?_,kN (kc2 @hrow0 hkk) [],?_⟩
     ·exact⟨by omega,by omega,f1,f2⟩
     ·dsimp only;omega
    ·obtain⟨hbk,hne⟩:=hSx s (by rw[<-hSS];simp);have h1:=hcmp x s;rw[uH,yL]at hl0;obtain⟨J,hJ⟩:∃J,J=A+S3.length:=⟨_,rfl⟩;have z0:A+(S3++[s]).length=J+1:=by rw[uH,yL];omega
     have g1:(P++(S3++[s])++x::(S2++Q2))[J+1]? =some x:=by
      rw[<-z0,hA,<-uH];exact ZqX _ _ _
     have rw1:P++(S3++[s])++x::(S2++Q2)=(P++S3)++s::x::(S2++Q2):=by simp
     have hPJ:(P++S3).length=J:=by rw[uH];omega
     have g2:(P++(S3++[s])++x::(S2++Q2))[J]? =some s:=by rw[rw1,<-hPJ];exact ZqX _ _ _
     have hln:(P++(S3++[s])++x::(S2++Q2)).length=N:=by
      simp only[uH,uX,uW];omega
     have hst:((P++(S3++[s])++x::(S2++Q2)).set (J+1) s).set J x=P++S3++x::(s::S2++Q2):=by
      have r1:(P++(S3++[s])++x::(S2++Q2)).set (J+1) s=(P++S3)++s::s::(S2++Q2):=by
       rw[<-z0,hA,<-uH,Ztz];simp
      rw[r1,<-hPJ,Ztz];simp
     have g3:((P++(S3++[s])++x::(S2++Q2)).set (J+1) s)[J]? =some s:=by
      rw[yX,if_neg (by omega),g2]
     rw[z0];rw[hrow]at*;generalize hLL:P++(S3++[s]++x::S2)++M.drop (k+1)++Q=LL at*;have g4:((LL.map (elD v p)).set (J+1) (elD v p s))[J]? =some (elD v p s):=by rw[<-yR,uJ,g3];rfl
     have hs2:((LL.map (elD v p)).set (J+1) (elD v p s)).set J (elD v p x)=(P++S3++x::(s::S2++Q2)).map (elD v p):=by rw[<-hst,yR,yR]
     have n1:(((J+1:Nat):Int)-1).toNat=J:=by omega
     have n2:(((J+1:Nat):Int)).toNat=J+1:=by omega
     have n3:((J+1:Nat):Int)-1=(J:Int):=by omega
     by_cases hlt2:c x s<0
     ·refine kw1 kO (kc8 n1 n2 n3 g1 g2 hln hlt2 (kc3 @yJ.{0} g4 hs2)) (kc1 h1) ?_;refine⟨(S3,s::S2),?_,kN (kc2 hs2 hJ) [],?_⟩
      ·dsimp only;exact⟨by rw[<-hSS];simp,λ z hz=>by
        rcases yD.1 hz with rfl|hz
        ·exact hbk.1 hlt2
        ·exact hS2 z hz⟩
      ·dsimp only;rw[uH,yL];omega
     ·have hsx:R s x:=by
       rcases hR.total s x hne with h|h
       ·exact h
       ·exact absurd (hbk.2 h) hlt2
      have hS1s:(S3++[s]).Pairwise R:=by
       rw[<-hSS]at hSs;exact(gH.1 hSs).1
      obtain⟨f1,f2⟩:=hfin (λ z hz=>by
       rcases yO.1 hz with hz|hz
       ·exact hR.trans z s x ((gH.1 hS1s).2.2 z hz s (by simp)) hsx
       ·rw[uT.1 hz];exact hsx)
      refine kw1 kO (kc7 n1 n2 n3 g1 g2 hln hlt2) (kc1 h1) ?_;refine⟨(k+1,S3++[s]++x::S2),?_,kN (kc2 hLL hkk) [],?_⟩
      ·exact⟨by omega,by omega,f1,f2⟩
      ·dsimp only;omega
  ·have hS:S=T:=by
    rw[uE hge]at hSp;exact ZD1 hR (hSp.trans hT.symm) hSs hTs
   subst hS;refine kw1 kO kc0 kc0 ?_;have e0:P++S++M.drop k++Q=P++S++Q:=by rw[List.drop_of_length_le hge,yT]
   refine⟨_,ZbA.1 (kN (L:=[]) (M:=[(1000, .row 2 ((P++S++Q).map (elD v p)))]) (kc1 e0) []),?_⟩;exact⟨⟨[],rfl,trivial⟩,fmc ⟨rfl,fmn⟩⟩
theorem ZDh (v:Nat->Int)(p:Nat->List D)(g:Nat)(c:Nat->Nat->Int)(R:Nat->Nat->Prop)(hR:Ord R)(hcmp:∀j k,Zaa Tryz.prog g [elD v p j,elD v p k] (.int (c j k)))
  (L T:List Nat)(hb:L.Pairwise (ZhA c R))(hnd:L.Nodup)(hT:T.Perm L)(hTs:T.Pairwise R)(hN1:L.length<=19):
  Zah Tryz.prog 262 [.ref 1000 2 0 L.length L.length, .int L.length, .d (.fn g [])] [(1000, .row 2 (L.map (elD v p)))] (.tup []) [(1000, .row 2 (T.map (elD v p)))]:=by
 have hso:=Zyh v p g c R hR hcmp [] L [] T hb hnd hT hTs L.length (by simp) (by omega) 0 L.length rfl (by simp);rw[gL,yT,gL,yT]at hso;generalize L.length=N at*;refine kM Tryz.func262 ?_;intro B0 X0 w0;refine Zdi ?_;refine kw1 kO kc0 kc0 ?_;refine Zae (λ(k:Nat)=>k=0) (λ k=>[(0, .ref 1000 2 0 N N),(1, .int N),(2, .d (.fn g [])),(6, .int 20),(7, .int 0),(8, .int 20)]) (λ k=>[(1000, .row 2 (L.map (elD v p)))]) (λ k=>0) 0 ?_ ?_ ?_
 ·rfl
 ·exact kN kc0 []
 ·rintro k rfl;refine kw1 kO kc0 (kc1 (kmc [] hso)) ?_;refine Zae (λ(k:Nat)=>k=0) (λ k=>[(0, .ref 1000 2 0 N N),(1, .int N),(2, .d (.fn g [])),(6, .int 20)]) (λ k=>[(1000, .row 2 (T.map (elD v p)))]) (λ k=>0) 0 ?_ ?_ ?_
  ·rfl
  ·exact kN kc0 []
  ·rintro k rfl;refine kw1 kO kc0 kc0 ?_;refine⟨_,ZbA.1 (kN (L:=[]) (M:=[(1000, .row 2 (T.map (elD v p)))]) kc0 []),?_⟩;exact⟨⟨[],rfl,trivial⟩,fmc ⟨rfl,fmn⟩⟩
theorem ZuY (v:Nat->Int)(p:Nat->List D)(g:Nat)(c:Nat->Nat->Int)(R:Nat->Nat->Prop)(hR:Ord R)(hcmp:∀j k,Zaa Tryz.prog g [elD v p j,elD v p k] (.int (c j k)))
  (L T:List Nat)(hb:L.Pairwise (ZhA c R))(hnd:L.Nodup)(hT:T.Perm L)(hTs:T.Pairwise R)(hN1:L.length<=19):
  Zah Tryz.prog 244 [.ref 1000 2 0 L.length L.length, .d (.fn g [])] [(1000, .row 2 (L.map (elD v p)))] (.tup []) [(1000, .row 2 (T.map (elD v p)))]:=by
 have h1:=ZDh v p g c R hR hcmp L T hb hnd hT hTs hN1;refine kM Tryz.func244 ?_;intro B0 X0 w0;refine Zdi ?_;refine kw1 kO kc0 (kc1 (kmc [] h1)) ?_;refine⟨_,ZbA.1 (kN (L:=[]) (M:=[(1000, .row 2 (T.map (elD v p)))]) kc0 []),?_⟩;exact⟨⟨[],rfl,trivial⟩,fmc ⟨rfl,fmn⟩⟩
end Go.Proofs.YtjjbhjnpeenbkaaGreatDoor
namespace Go.Proofs.YtjjbhjnpeenbkaaGreatDoor
open Go Go.PS Go.Proofs
open Go.Stb
def Zj9 (y:List Int)(v:Int)(x:Arc):List Int:=(if x.1=v/\0<=placeF y x.2 then[placeF y x.2]else[])++(if x.2=v/\0<=placeF y x.1 then[placeF y x.1]else[])
def ZbK (y:List Int)(ar:List Arc)(v:Int):List Int:=ar.flatMap (Zj9 y v)
theorem ZsC (y:List Int)(v:Int):∀ar:List Arc,(ZbK y ar v).length<=2*ar.length
 |[]=>by simp[ZbK]
 |x::ar=>by
  have ih:=ZsC y v ar;have:(Zj9 y v x).length<=2:=by
   rw[Zj9];split<;>split<;>simp
  rw[ZbK]at ih|-;rw[gO,uH,uX];omega
def ZdX (p:Nat->List Int)(T:List Nat)(k:Nat):Nat->Nat
 |0=>0
 |n+1=>if 0<Zce (p ((T[n]?).getD 0)) (p k)then ZdX p T k n else n+1
def ZiH (p:Nat->List Int)(T:List Nat)(k:Nat):List Nat:=T.take (ZdX p T k T.length)++k::T.drop (ZdX p T k T.length)
def Zov (p:Nat->List Int)(l:List Nat):List Nat:=l.foldl (ZiH p) []
theorem ZmV (p:Nat->List Int)(T:List Nat)(k:Nat):∀n,ZdX p T k n<=n
 |0=>uI _
 |n+1=>by rw[ZdX];have:=ZmV p T k n;split<;>omega
theorem Zre (p:Nat->List Int)(T:List Nat)(k:Nat):(ZiH p T k).Perm (k::T):=by
 rw[ZiH];refine Be.trans ?_;rw[gI]
theorem Zqo (p:Nat->List Int)(T:List Nat)(k:Nat):∀n,0<ZdX p T k n->¬0<Zce (p ((T[ZdX p T k n-1]?).getD 0)) (p k)
 |0,h=>by rw[ZdX]at h;omega
 |n+1,h=>by
  rw[ZdX]at h|-;split
  ·rename_i c;rw[if_pos c]at h;exact Zqo p T k n h
  ·rename_i c;exact c
theorem Zqn (p:Nat->List Int)(T:List Nat)(k:Nat):∀n,ZdX p T k n<n->0<Zce (p ((T[ZdX p T k n]?).getD 0)) (p k)
 |0,h=>by omega
 |n+1,h=>by
  rw[ZdX]at h|-;split
  ·rename_i c;rw[if_pos c]at h;by_cases c2:ZdX p T k n<n
   ·exact Zqn p T k n c2
   ·have:=ZmV p T k n;have:ZdX p T k n=n:=by omega
    rw[this];exact c
  ·rename_i c;rw[if_neg c]at h;omega
theorem Zyc {p:Nat->List Int}{T:List Nat}{k:Nat}(hs:T.Pairwise (ZgB p))(hk:∀j,j∈T->j<k):(ZiH p T k).Pairwise (ZgB p):=by
 have hle:=ZmV p T k T.length;refine ZAB (Zsk p) hle hs (λ x h0 hx=>?_) (λ x hx=>?_)
 ·have:=Zqo p T k T.length h0;rw[hx,yK]at this;exact .inr ⟨λ h=>this (by have:=ZmL (p x) (p k);omega),hk x (uA hx)⟩
 ·have h1:=(uB.1 hx).1;have:=Zqn p T k T.length h1;rw[hx,yK]at this;exact .inl (by have:=ZmL (p k) (p x);omega)
theorem ZC4 (p:Nat->List Int)(l:List Nat):(Zov p l).Perm l:=by
 have:∀(l T:List Nat),(l.foldl (ZiH p) T).Perm (l++T):=by
  intro l
  induction l with
  |nil=>intro T;exact List.Perm.refl _
  |cons k l ih=>
   intro T;rw[jN];refine(ih _).trans (((Zre p T k).append_left l).trans ?_);exact Be
 have h:=this l [];rw[yT]at h;exact h
theorem ZC5 {p:Nat->List Int}{l:List Nat}(hl:l.Pairwise (·<·)):(Zov p l).Pairwise (ZgB p):=by
 have:∀(l T:List Nat),T.Pairwise (ZgB p)->l.Pairwise (·<·)->(∀j,j∈T->∀k,k∈l->j<k)->(l.foldl (ZiH p) T).Pairwise (ZgB p):=by
  intro l
  induction l with
  |nil=>intro T h _ _;exact h
  |cons k l ih=>
   intro T h1 h2 h3;rw[zA]at h2;rw[jN];refine ih _ (Zyc h1 λ j hj=>h3 j hj k (by simp)) h2.2 λ j hj q hq=>?_
   rcases yD.1 ((Zre p T k).mem_iff.1 hj)with rfl|hj
   ·exact h2.1 q hq
   ·exact h3 j hj q (uN _ hq)
 exact this l [] List.Pairwise.nil hl (λ j hj=>by cases hj)
def Zc5 (y z:List Int)(ar:List Arc)(k:Nat):Bool:= !(ZbK z ar (at0 y k)).isEmpty
def Zbu (y z:List Int)(ar:List Arc)(n:Nat):List Nat:=(List.range n).filter (Zc5 y z ar)
def Zfz (y z:List Int)(ar:List Arc):List Nat:=Zov (λ k=>ZbK z ar (at0 y k)) (Zbu y z ar y.length)
def Zf5 (y z:List Int)(ar:List Arc):List Int:=(List.range y.length).map λ k=>if Zc5 y z ar k then at0 y (((Zfz y z ar)[(Zbu y z ar k).length]?).getD 0:Nat)else at0 y k
theorem Zk8 (y z:List Int)(ar:List Arc)(n:Nat):Zbu y z ar (n+1)=if Zc5 y z ar n then Zbu y z ar n++[n]else Zbu y z ar n:=by
 rw[Zbu,qP,gE,jV,kH];split<;>simp[Zbu]
theorem ZjA (y z:List Int)(ar:List Arc)(n:Nat):(Zbu y z ar n).Pairwise (·<·):=Ax _ kU
theorem Zne {y z:List Int}{ar:List Arc}{n k:Nat}(h:k∈Zbu y z ar n):k<n/\Zc5 y z ar k=true:=by
 rw[Zbu,Am,yA]at h;exact h
theorem ZiF {y z:List Int}{ar:List Arc}:∀{n k:Nat},k<n->Zc5 y z ar k=true->(Zbu y z ar n)[(Zbu y z ar k).length]? =some k
 |0,_,h,_=>by omega
 |n+1,k,h,hk=>by
  rcases uC k n with c|c
  ·have ih:=ZiF c hk;rw[Zk8];split
   ·rw[qW (uB.1 ih).1];exact ih
   ·exact ih
  ·have:k=n:=by omega
   subst this;rw[Zk8,if_pos hk,qG (uI _),jF];rfl
theorem ZlS (y z:List Int)(ar:List Arc):(Zfz y z ar).Perm (Zbu y z ar y.length):=ZC4 _ _
theorem ZtO (y z:List Int)(ar:List Arc):(Zfz y z ar).length=(Zbu y z ar y.length).length:=(ZlS y z ar).length_eq
def Zj2 (y z:List Int)(ar:List Arc):List Nat:=(List.range y.length).map λ k=>if Zc5 y z ar k then((Zfz y z ar)[(Zbu y z ar k).length]?).getD 0 else k
theorem ZzV (y z:List Int)(ar:List Arc):Zf5 y z ar=ZaM y (Zj2 y z ar):=by
 rw[Zf5,ZaM,Zj2,gR];refine yN λ k _=>?_
 simp only[Function.comp_apply,at0,uK];split<;>rfl
theorem Zkk {y z:List Int}{ar:List Arc}{k:Nat}(hk:k<y.length)(h:Zc5 y z ar k=true):
  ∃t,(Zfz y z ar)[(Zbu y z ar k).length]? =some t/\t<y.length/\Zc5 y z ar t=true:=by
 have h1:=(uB.1 (ZiF hk h)).1;rw[<-ZtO]at h1;obtain⟨t,ht⟩:=Zac h1;have h2:=(ZlS y z ar).mem_iff.1 (uA ht);exact⟨t,ht,Zne h2⟩
theorem Zsb {l:List Nat}(hn:l.Nodup){i j x:Nat}(hi:l[i]? =some x)(hj:l[j]? =some x):i=j:=by
 obtain⟨i1,e1⟩:=uB.1 hi;obtain⟨j1,e2⟩:=uB.1 hj;have hp:=gM.1 hn;rcases Ap i j with h|h|h
 ·exact absurd (e1.trans e2.symm) (hp i j i1 j1 h)
 ·exact h
 ·exact absurd (e2.trans e1.symm) (hp j i j1 i1 h)
theorem ZC3 (y z:List Int)(ar:List Arc):(Zfz y z ar).Nodup:=
 (ZlS y z ar).nodup_iff.2 ((ZjA y z ar y.length).imp λ h=>De h)
theorem ZqS {y z:List Int}{ar:List Arc}{j k n:Nat}(hj:j<n)(hk:k<n)(h1:Zc5 y z ar j=true)(h2:Zc5 y z ar k=true)(he:(Zbu y z ar j).length=(Zbu y z ar k).length):j=k:=by
 have e1:=ZiF hj h1;have e2:=ZiF hk h2;rw[he,e2,yM]at e1;exact e1.symm
theorem Zz1 (y z:List Int)(ar:List Arc):Go.Bd.Part y.length 0 (Zj2 y z ar):=by
 refine⟨?_,λ v hv=>?_,by simp[Zj2]⟩
 ·rw[Zj2,List.nodup_iff_pairwise_ne,List.pairwise_map];refine List.Pairwise.imp_of_mem (R:=(·<·)) (λ{j k} hj hk hlt=>?_) kU;rw[yA]at hj hk;rcases c1:Zc5 y z ar j with _|_<;>rcases c2:Zc5 y z ar k with _|_<;>simp only[if_true,jE,qD]
  ·omega
  ·obtain⟨t,h1,h2,h3⟩:=Zkk hk c2;rw[h1,yK];rintro rfl;rw[c1]at h3;cases h3
  ·obtain⟨t,h1,h2,h3⟩:=Zkk hj c1;rw[h1,yK];rintro rfl;rw[c2]at h3;cases h3
  ·obtain⟨t,h1,h2,h3⟩:=Zkk hj c1;obtain⟨u,g1,g2,g3⟩:=Zkk hk c2;rw[h1,g1,yK,yK];rintro rfl;have:=Zsb (ZC3 y z ar) h1 g1;have:=ZqS hj hk c1 c2 this;omega
 ·obtain⟨k,hk,rfl⟩:=uP.1 hv;rw[yA]at hk;rcases c1:Zc5 y z ar k with _|_<;>simp only[if_true,jE,qD]
  ·exact hk
  ·obtain⟨t,h1,h2,h3⟩:=Zkk hk c1;rw[h1];exact h2
theorem Zsj {y:List Int}(hn:y.Nodup)(z:List Int)(ar:List Arc):(Zf5 y z ar).Perm y:=by
 rw[ZzV];exact Zn0 hn (Zz1 y z ar)
theorem ZzW (y z:List Int)(ar:List Arc):(Zf5 y z ar).length=y.length:=by simp[Zf5]
def ZhW (b:Lv)(i f:Nat):Lv:=Zcc b i (Zf5 (Zay b.2.1 i) (Zay b.2.1 f) b.2.2.1)
theorem Zrq {a b:Lv}(h:Kin a b){i:Nat}(hi:i<a.2.1.length)(f:Nat):Kin a (ZhW b i f):=
 h.put (h.lay hi) (Zsj (ZjL h.ok (h.lay hi)) _ _)
def ZdY (b:Lv):Nat->Lv
 |0=>b
 |k+1=>ZhW (ZdY b k) (k+1) k
def upB (b:Lv)(n:Nat):Nat->Lv
 |0=>b
 |k+1=>ZhW (upB b n k) (n-2-k) (n-1-k)
def swB (b:Lv):Lv:=upB (ZdY b (b.2.1.length-1)) b.2.1.length (b.2.1.length-1)
theorem ZmY {a b:Lv}(h:Kin a b):∀k,k<=a.2.1.length-1->Kin a (ZdY b k)
 |0,_=>h
 |k+1,hk=>Zrq (ZmY h k (by omega)) (by omega) k
theorem ZoQ {a b:Lv}(h:Kin a b):∀k,k<=a.2.1.length-1->Kin a (upB b a.2.1.length k)
 |0,_=>h
 |k+1,hk=>Zrq (ZoQ h k (by omega)) (by omega) _
theorem ZDz {a b:Lv}(h:Kin a b):Kin a (swB b):=by
 rw[swB,h.len];exact ZoQ (ZmY h _ (uI _)) _ (uI _)
def Zdh (a:Lv):Nat->Lv
 |0=>a
 |k+1=>swB (Zdh a k)
def Zct (a:Lv):Nat->Lv
 |0=>a
 |k+1=>if Zbk (Zdh a (k+1))<Zbk (Zct a k)then Zdh a (k+1)else Zct a k
theorem ZnK {a:Lv}(hv:Zaw a=true)(hw:wide a):∀k,Kin a (Zdh a k)
 |0=>Kin.refl hv hw
 |k+1=>ZDz (ZnK hv hw k)
theorem ZpO {a:Lv}(hv:Zaw a=true)(hw:wide a):∀k,Kin a (Zct a k)
 |0=>Kin.refl hv hw
 |k+1=>by
  rw[Zct];split
  ·exact ZnK hv hw (k+1)
  ·exact ZpO hv hw k
def ZgI (r:Int):Nat:=(min (max r 0) 100).toNat
def ZkV (a:Lv)(r:Int):Lv×Int:=if Zaw a then(Zct a (ZgI r),Zbk (Zct a (ZgI r)))else(lv0,0)
set_option maxRecDepth 100000
attribute [local irreducible] Zad wpG Zaa Zah
def Zf4 (x:Int):Bool:=decide (0<=x/\x<=1048576)
theorem ZzK (l:List Int):Zj0 l=(decide (l.length<=4096)&&l.all Zf4):=rfl
theorem ZvW {l:List Int}(h:∀x,x∈l->Zf4 x=true):0<=l.sum/\l.sum<=((l.length*1048576:Nat):Int):=
 Zrh λ x hx=>by
  have:=h x hx;rw[Zf4,uF]at this;exact this
theorem ZDy {l:List Int}{k:Nat}{x:Int}(h:l[k]? =some x):(l.take (k+1)).sum=(l.take k).sum+x:=by
 rw[ZaA h,Cf];simp
theorem Zvb {l:List Int}{k:Nat}{x:Int}(h:l[k]? =some x)(hx:Zf4 x=false):l.all Zf4=false:=by
 rw[List.all_eq_false];exact⟨x,uA h,by rw[hx];decide⟩
theorem all_take {l:List Int}(h:∀x,x∈l.take l.length->Zf4 x=true):l.all Zf4=true:=by
 rw[yH]at h;rw[uZ];exact h
theorem ZpP (l:List Int):Zaa Tryz.prog 263 [Zab l] (.tup [.int (Zby l), .int (ZaG l)]):=by
 rw[Zby,ZaG,ZzK];refine kE Tryz.func263 ?_;intro hat B X w0;by_cases hl:l.length<=4096
 ·refine kw1 kO kc0 kc0 ?_;refine Zae (λ(k:Nat)=>k<=l.length/\(∀x,x∈l.take k->Zf4 x=true)) (λ k=>[(0, .d (Zab l)),(4, .int (l.take k).sum),(10, .d (Zab l)),(11, .int l.length),(12, .int k)]) (λ k=>[]) (λ k=>l.length-k) 0 ?_ ?_ ?_
  ·exact⟨uG _,λ x hx=>by rw[yU]at hx;cases hx⟩
  ·exact kN (kc2 @yU.{0} @List.sum_nil.{0}) []
  ·rintro k ⟨hk,hinv⟩;have hb:=ZvW hinv;rw[yF,jM hk]at hb;rcases uC k l.length with hlt|hge
   ·obtain⟨x,hx⟩:=Zac hlt;have e1:=ZDy hx;by_cases c:0<=x/\x<=1048576
    ·obtain⟨c1,c2⟩:=c;refine kw1 kO (kc1 hx) kc0 ?_;refine⟨k+1,?_,kN (kc1 e1) [],?_⟩
     ·refine⟨by omega,λ y hy=>?_⟩;rw[ZaA hx]at hy;rcases yO.1 hy with hy|hy
      ·exact hinv y hy
      ·rw[uT.1 hy,Zf4,yB ⟨c1,c2⟩]
     ·omega
    ·rw[Zvb hx (by rw[Zf4,uU c]),Aw,if_neg (by decide),if_neg (by decide)];refine kw kO (kc1 hx) kc0 ?_
     repeat' first|exact True.intro|refine Bn.mk ?_ ?_|intro hc
     all_goals exact⟨_,rfl,Zaf rfl,Zaf rfl,trivial⟩
   ·have:k=l.length:=by omega
    subst this;rw[all_take hinv,yB hl,kC,if_pos rfl,if_pos rfl];refine kw1 kO kc0 kc0 ?_;refine⟨_,rfl,Zaf ?_,Zaf rfl,trivial⟩;rw[yH]
 ·rw[uU hl,Av,if_neg (by decide),if_neg (by decide)];have hl2:=ZaY 0 hat rfl;rw[uD]at hl2;refine kw1 kO kc0 kc0 ?_;exact⟨_,rfl,Zaf rfl,Zaf rfl,trivial⟩
theorem Zrg (a:Int):Zaa Tryz.prog 282 [.int a] (.bool false):=by
 refine kE Tryz.func282 ?_;intro hat B X w0;refine kw1 kO kc0 kc0 ?_;exact Zai (by simp)
theorem ZmO (a b:Int):Zaa Tryz.prog 264 [.int a, .int b] (.int (sg a b)):=by
 have h1:=Zrg a;have h2:=Zrg b;rw[sg];refine kE Tryz.func264 ?_;intro hat B X w0;by_cases c1:a<b
 ·rw[if_pos c1];refine kw1 kO (kc1 c1) (kc2 h1 h2) ?_;exact Zaf rfl
 ·rw[if_neg c1];by_cases c2:b<a
  ·rw[if_pos c2];refine kw1 kO (kc2 c1 c2) (kc2 h1 h2) ?_;exact Zaf rfl
  ·rw[if_neg c2];refine kw1 kO (kc2 c1 c2) (kc2 h1 h2) ?_;exact Zaf rfl
theorem ZrZ (n:Nat):(if(1:Int)<n then(1:Int)else(n:Int))=((min n 1:Nat):Int):=by split<;>omega
theorem Zvx (a b:List Int):Zaa Tryz.prog 246 [Zab a,Zab b] (.int (Zce a b)):=by
 have h1:=ZpP a;have h2:=ZpP b;have h4:=ZmO (Zby a*ZaG b) (Zby b*ZaG a);have p1:=ZsI a b;have p2:=ZsI b a;rw[Zce];have m1:=ZrZ (ZaG a);have m2:=ZrZ (ZaG b);have z0:((min 0 1:Nat):Int)=0:=rfl;generalize Zby a=S at*;generalize Zby b=T at*;generalize ZaG a=j at*;generalize ZaG b=k at*;refine kE Tryz.func246 ?_;intro hat B X w0;by_cases c1:j=0
 ·rw[if_pos (.inl c1),c1,z0];rw[c1]at h1;have h3:=ZmO 0 ((min k 1:Nat):Int);have q1:((0:Nat):Int)=0:=rfl;refine kw1 kO (kc2 q1 m2) (kc3 h1 h2 h3) ?_;exact Zaf rfl
 ·by_cases c2:k=0
  ·rw[if_pos (.inr c2),c2,z0];rw[c2]at h2;have h3:=ZmO ((min j 1:Nat):Int) 0;have q1:((0:Nat):Int)=0:=rfl;have c1I:¬(j:Int)=0:=by omega
   refine kw1 kO (kc3 q1 m1 c1I) (kc3 h1 h2 h3) ?_;exact Zaf rfl
  ·rw[if_neg (by omega)];refine kw1 kO kc0 (kc3 h1 h2 h4) ?_;exact Zaf rfl
theorem ZvR (u v:Int)(a b:List Int):Zaa Tryz.prog 245 [.ag [.int u,Zab a], .ag [.int v,Zab b]] (.int (Zce a b)):=by
 have h1:=Zvx a b;refine kE Tryz.func245 ?_;intro hat B X w0;refine kw1 kO kc0 (kc1 h1) ?_;exact Zaf rfl
theorem ZoU {a:Lv}(h:Zaw a=true){v:Int}(hv:v∈a.2.1.flatten):0<=v/\v<tot a.2.1:=by
 obtain⟨_,_,hr⟩:=Zie h;obtain⟨_,_,hg,_⟩:=ZiW hr;exact(Zgs.1 hg).1 v hv
theorem Zvh {a:Lv}(h:Zaw a=true){x:Arc}(hx:x∈a.2.2.1):x.1≠x.2/\(0<=x.1/\x.1<tot a.2.1)/\(0<=x.2/\x.2<tot a.2.1):=by
 obtain⟨k,hk⟩:=yW hx;obtain⟨r,p,q,h1,h2⟩:=ZoT h hk;refine⟨λ e=>?_,ZoU h h1.mem,ZoU h h2.mem⟩;rw[<-e]at h2;have:=Zcr.layer (ZfC h) h1 h2;omega
theorem ZAv {z:List Int}{ar:List Arc}{v:Int}{k:Nat}{x:Arc}(h:ar[k]? =some x):ZbK z (ar.take (k+1)) v=ZbK z (ar.take k) v++Zj9 z v x:=by
 rw[ZbK,ZbK,ZaA h,List.flatMap_append,gO,Bb,yT]
theorem ZvT (a:Lv)(v:Int)(z pl:List Int)(har:a.2.2.1.length<=1000)(hpl:∀u:Int,0<=u->u<pl.length->pl[u.toNat]? =some (placeF z u))
  (hx:∀x,x∈a.2.2.1->x.1≠x.2/\(0<=x.1/\x.1<pl.length)/\(0<=x.2/\x.2<pl.length)):
  Zaa Tryz.prog 243 [lvD a, .int v,Zab pl] (Zab (ZbK z a.2.2.1 v)):=by
 obtain⟨n,ls,ar,cs⟩:=a;dsimp only at har hx|-;refine kE Tryz.func243 ?_;intro hat B X w0;refine kw1 kO kc0 kc0 ?_;refine Zaq _ (Zc3 7 901 1 rfl rfl) ?_;refine Zae (λ(k:Nat)=>k<=ar.length) (λ k=>[(1, .int v),(2, .d (Zab pl)),(7, .ref 901 1 0 (ZbK z (ar.take k) v).length (ZbK z (ar.take k) v).length),(11, .d (Zal ar)),(12, .int ar.length),(13, .int k)]) (λ k=>[(901, .row 1 ((ZbK z (ar.take k) v).map D.int))]) (λ k=>ar.length-k) 0 ?_ ?_ ?_
 ·exact uG _
 ·exact kN (kc5 @yU.{0} @ZbK.eq_1 @Bb.{0,0} @yE.{0,0} @uW.{0}) []
 ·intro k hk;have hRl:=ZsC z v (ar.take k);rw[yF,jM hk]at hRl;rcases uC k ar.length with hlt|hge
  ·obtain⟨x,hxk⟩:=Zac hlt;obtain⟨hne,⟨b1,b2⟩,⟨b3,b4⟩⟩:=hx x (uA hxk);have g1:=hpl x.1 b1 b2;have g2:=hpl x.2 b3 b4;have e1:=ZAv (z:=z) (v:=v) hxk;rw[Zj9]at e1;generalize ZbK z (ar.take k) v=R at*;generalize placeF z x.1=q1 at*;generalize placeF z x.2=q2 at*;obtain⟨s,t⟩:=x;dsimp only at*;have htl:(R.map D.int).take R.length=R.map D.int:=Zan _ _;have i1:s.toNat<pl.length:=by omega
   have i2:t.toNat<pl.length:=by omega
   by_cases c1:s=v/\0<=q2
   ·obtain⟨c1,c2⟩:=c1;have c3:¬t=v:=λ e=>hne (c1.trans e.symm)
    rw[if_pos ⟨c1,c2⟩,if_neg (λ h=>c3 h.1),yT]at e1;refine kw1 kO (kc8 hxk g1 g2 i1 i2 b1 b2 (kc6 b3 b4 c1 c2 c3 htl)) kc0 ?_;refine⟨k+1,?_,kN (kc8 e1 @uR.{0,0} @uS.{0,0} @yE.{0,0} @uH.{0} @uX.{0} @uW.{0} (kc2 @qM htl)) [(901,36)],?_⟩
    ·omega
    ·omega
   ·by_cases c4:t=v/\0<=q1
    ·obtain⟨c4,c5⟩:=c4;have c3:¬s=v:=λ e=>hne (e.trans c4.symm)
     rw[if_neg c1,if_pos ⟨c4,c5⟩,gL]at e1;refine kw1 kO (kc8 hxk g1 g2 i1 i2 b1 b2 (kc6 b3 b4 c3 c4 c5 htl)) kc0 ?_;refine⟨k+1,?_,kN (kc8 e1 @uR.{0,0} @uS.{0,0} @yE.{0,0} @uH.{0} @uX.{0} @uW.{0} (kc2 @qM htl)) [(901,56)],?_⟩
     ·omega
     ·omega
    ·rw[if_neg c1,if_neg c4,gL,yT]at e1;refine kw kO (kc8 hxk g1 g2 i1 i2 b1 b2 (kc3 b3 b4 htl)) kc0 ?_
     repeat' first|exact True.intro|refine Bn.mk ?_ ?_|intro hc
     all_goals
      refine⟨k+1,?_,kN (kc1 e1) [],?_⟩
      ·omega
      ·omega
  ·have:k=ar.length:=by omega
   subst this;rw[yH]at hRl|-;refine kw1 kO kc0 kc0 ?_;exact Zch (o:=901) rfl rfl (by simp) (Zan _ _)
theorem Ztf {g:Nat->Int}{n j:Nat}{x:Int}:(Zbg g n).set j x=Zbg (λ u=>if u=j then x else g u) n:=by
 refine yS λ v=>?_
 rw[yX,Zex];by_cases c:v<n
 ·rw[Zf8 c,Zf8 c];by_cases c2:j=v
  ·subst c2;rw[if_pos rfl,if_pos c,if_pos rfl]
  ·rw[if_neg c2,if_neg (λ h=>c2 h.symm)]
 ·rw[uL (by rw[Zex];omega),uL (by rw[Zex];omega)];by_cases c2:j=v
  ·rw[if_pos c2,if_neg (by omega)]
  ·rw[if_neg c2]
theorem ZAr {z:List Int}(hn:z.Nodup){k:Nat}{v:Int}(h:z[k]? =some v)(u:Int):placeF (z.take (k+1)) u=if u=v then(k:Int)else placeF (z.take k) u:=by
 have hn1:(z.take (k+1)).Nodup:=hn.sublist (List.take_sublist _ _);have hn0:(z.take k).Nodup:=hn.sublist (List.take_sublist _ _);by_cases c:u=v
 ·subst c;rw[if_pos rfl];exact ZiT hn1 (by rw[qF,if_pos (by omega)];exact h)
 ·rw[if_neg c];by_cases c2:u∈z.take k
  ·obtain⟨j,hj⟩:=yW c2;rw[ZiT hn0 hj];have hjk:j<k:=by have:=(uB.1 hj).1;rw[yF]at this;omega
   refine ZiT hn1 ?_;rw[qF,if_pos hjk]at hj;rw[qF,if_pos (by omega)];exact hj
  ·rw[Zj7 c2,Zj7];rw[ZaA h];intro hm;rcases yO.1 hm with hm|hm
   ·exact c2 hm
   ·exact c (uT.1 hm)
def Zf6 (y z:List Int)(ar:List Arc)(q:Nat):List Int:=Zbg (λ k=>if Zc5 y z ar k=true/\(Zbu y z ar k).length<q then at0 y (((Zfz y z ar)[(Zbu y z ar k).length]?).getD 0:Nat)else at0 y k) y.length
theorem ZzY (y z:List Int)(ar:List Arc)(q:Nat):(Zf6 y z ar q).length=y.length:=Zex _ _
theorem Zz0 (y z:List Int)(ar:List Arc):Zf6 y z ar 0=y:=by
 have:Zf6 y z ar 0=Zbg (λ k:Nat=>at0 y k) y.length:=Zhd λ k _=>if_neg (by omega)
 rw[this];refine yS λ k=>?_
 by_cases c:k<y.length
 ·rw[Zf8 c,at0_at c]
 ·rw[uL (by rw[Zex];omega),uL (by omega)]
theorem ZzX (y z:List Int)(ar:List Arc):Zf6 y z ar (Zbu y z ar y.length).length=Zf5 y z ar:=by
 refine yN λ k hk=>?_
 rw[yA]at hk;rcases c:Zc5 y z ar k with _|_
 ·simp
 ·have:=(uB.1 (ZiF hk c)).1;simp[this]
theorem ZzZ {y z:List Int}{ar:List Arc}{q j t:Nat}(hj:(Zbu y z ar y.length)[q]? =some j)(ht:(Zfz y z ar)[q]? =some t):(Zf6 y z ar q).set j (at0 y t)=Zf6 y z ar (q+1):=by
 have h1:=Zne (uA hj);have h2:=ZiF h1.1 h1.2;have hq:(Zbu y z ar j).length=q:=by
  exact(Zsb ((ZjA y z ar y.length).imp λ h=>De h) hj h2).symm
 rw[Zf6,Ztf];refine Zhd λ k hk=>?_
 by_cases c:k=j
 ·subst c;rw[if_pos rfl,if_pos ⟨h1.2,by omega⟩,hq,ht];rfl
 ·rw[if_neg c];by_cases c2:Zc5 y z ar k=true
  ·have:(Zbu y z ar k).length≠q:=λ e=>c (ZqS hk h1.1 c2 h1.2 (by omega))
   by_cases c3:(Zbu y z ar k).length<q
   ·rw[if_pos ⟨c2,c3⟩,if_pos ⟨c2,by omega⟩]
   ·rw[if_neg (λ h=>c3 h.2),if_neg (λ h=>by have:=h.2;omega)]
  ·rw[if_neg (λ h=>c2 h.1),if_neg (λ h=>c2 h.1)]
theorem ZqT (y z:List Int)(ar:List Arc):∀n,(Zbu y z ar n).length<=n
 |0=>by simp[Zbu]
 |n+1=>by
  have:=ZqT y z ar n;rw[Zk8];split
  ·rw[uH,yL];omega
  ·omega
theorem Zsl (a:Lv)(i f:Nat)(hw:wide a)(hv:Zaw a=true)(har:a.2.2.1.length<=700)(hi:i<a.2.1.length)(hf:f<a.2.1.length):
  Zaa Tryz.prog 215 [lvD a, .int i, .int f] (lvD (ZhW a i f)):=by
 obtain⟨y,hy⟩:=Zac hi;obtain⟨z,hz⟩:=Zac hf;have hyn:=ZjL hv hy;have hzn:=ZjL hv hz;obtain⟨t1,t2⟩:=Zdy hv;have hyl:=Zde (uA hy);have hyw:=hw y (uA hy);have hzl:=Zde (uA hz);have hzr:∀(k:Nat) v,z[k]? =some v->0<=v/\v<tot a.2.1:=λ k v hk=>ZoU hv (Ah.2 ⟨z,uA hz,uA hk⟩)
 have hpl:∀v,Zaa Tryz.prog 243 [lvD a, .int v,Zab (Zbg (λ u:Nat=>placeF z u) (tot a.2.1))] (Zab (ZbK z a.2.2.1 v)):=λ v=>
  ZvT a v z _ (by omega) (λ u h0 h1=>by
   rw[Zex]at h1;rw[Zf8 (by omega),show((u.toNat:Nat):Int)=u by omega]) (λ x hx=>by
   rw[Zex];exact Zvh hv hx)
 have hre:=Zpd a i (Zf5 y z a.2.2.1) hw (by rw[ZzW];omega);rw[Zoe hv hy (Zsj hyn z a.2.2.1)]at hre;have hlay:ZhW a i f=Zcc a i (Zf5 y z a.2.2.1):=by rw[ZhW,Zeu hy,Zeu hz]
 rw[<-hlay]at hre;have hcl:=Zwt y (by omega);have hFl:=ZqT y z a.2.2.1;have hbk:(Zbu y z a.2.2.1 y.length).Pairwise (ZhA (λ j k:Nat=>Zce (ZbK z a.2.2.1 (at0 y j)) (ZbK z a.2.2.1 (at0 y k))) (ZgB λ k:Nat=>ZbK z a.2.2.1 (at0 y k))):=by
  refine List.Pairwise.imp ?_ (ZjA y z a.2.2.1 y.length);intro j k h;exact Zz2 (p:=λ k:Nat=>ZbK z a.2.2.1 (at0 y k)) h
 have hso:=ZuY (λ k:Nat=>at0 y k) (λ k:Nat=>(ZbK z a.2.2.1 (at0 y k)).map D.int) 245 (λ j k:Nat=>Zce (ZbK z a.2.2.1 (at0 y j)) (ZbK z a.2.2.1 (at0 y k))) (ZgB λ k:Nat=>ZbK z a.2.2.1 (at0 y k)) (Zsk _)
  (λ j k=>ZvR _ _ _ _) (Zbu y z a.2.2.1 y.length) (Zfz y z a.2.2.1) hbk ((ZjA y z a.2.2.1 y.length).imp λ h=>De h)
  (ZlS y z a.2.2.1) (ZC5 (ZjA y z a.2.2.1 y.length)) (by have:=hFl y.length;omega)
 have hSl:=ZtO y z a.2.2.1;have hO0:=Zz0 y z a.2.2.1;have hOf:=ZzX y z a.2.2.1;have hOl:=ZzY y z a.2.2.1;have hOs:∀q j t:Nat,(Zbu y z a.2.2.1 y.length)[q]? =some j->(Zfz y z a.2.2.1)[q]? =some t->(Zf6 y z a.2.2.1 q).set j (at0 y t)=Zf6 y z a.2.2.1 (q+1):=λ q j t=>ZzZ
 have hFs:=Zk8 y z a.2.2.1;have hF0:Zbu y z a.2.2.1 0=[]:=rfl;have hFm:∀q j:Nat,(Zbu y z a.2.2.1 y.length)[q]? =some j->j<y.length:=λ q j h=>(Zne (uA h)).1
 have hH:∀k:Nat,Zc5 y z a.2.2.1 k=decide (0<(ZbK z a.2.2.1 (at0 y k)).length):=λ k=>by
  rw[Zc5];cases ZbK z a.2.2.1 (at0 y k)<;>simp
 obtain⟨C,hC⟩:∃C,C=tot a.2.1:=⟨_,rfl⟩;rw[<-hC]at hpl hzr t2;clear hlay hbk;generalize ZhW a i f=PP at*;generalize hPQ:(λ k:Nat=>ZbK z a.2.2.1 (at0 y k))=PQ at*;have hPQe:∀k:Nat,ZbK z a.2.2.1 (at0 y k)=PQ k:=λ k=>by rw[<-hPQ]
 have hplk:∀k:Nat,Zaa Tryz.prog 243 [lvD a, .int (at0 y k),Zab (Zbg (λ u:Nat=>placeF z u) C)] (Zab (PQ k)):=λ k=>by rw[<-hPQe];exact hpl _
 simp only[hPQe]at hso hH;clear hpl hPQ hPQe;generalize Zbu y z a.2.2.1=F at*;generalize Zfz y z a.2.2.1=T at*;generalize Zf6 y z a.2.2.1=ON at*;generalize Zf5 y z a.2.2.1=OBv at*;simp only[hH]at hFs;clear hH;obtain⟨n',ls',ar',cs'⟩:=PP;obtain⟨n,ls,ar,cs⟩:=a;dsimp only at*;have htk:=Zi5 ls;refine kE Tryz.func215 ?_;intro hat B X w0;refine kw1 kO kc0 kc0 ?_;refine Zae (λ(k:Nat)=>k<=ls.length) (λ k=>[(1, .int i),(2, .int f),(3, .ptr 3 0 0 0),(6, .ptr 6 0 0 0),(7, .int (tot (ls.take k))),(25, .d (Zag ls)),(26, .int ls.length),(27, .int k)]) (λ k=>[(3, .cells [.int n, .d (Zag ls), .d (Zal ar), .d (Zag cs)]),(6, .cells [.int 0, .nilS, .nilS, .nilS])]) (λ k=>ls.length-k) 0 ?_ ?_ ?_
 ·exact uG _
 ·exact kN (kc2 @yU.{0} @tot.eq_1) []
 ·intro k hk;have hle:=htk k;rcases uC k ls.length with hlt|hge
  ·obtain⟨x,hx⟩:=Zac hlt;have e1:=Zkr hx;have hle2:=htk (k+1);refine kw1 kO (kc1 hx) kc0 ?_;refine⟨k+1,?_,kN (kc2 e1 @qQ) [],?_⟩
   ·omega
   ·omega
  ·have:k=ls.length:=by omega
   subst this
   try dsimp only
   rw[yH,<-hC];have hz0:List.replicate C (D.int 0)=(ZcK (λ _=>0) (λ _=>-1) C 0).map D.int:=by rw[Zr3,Ztg]
   refine kw1 kO kc0 kc0 ?_;refine Zae (λ(k:Nat)=>k<=C) (λ k=>[(1, .int i),(2, .int f),(3, .ptr 3 0 0 0),(6, .ptr 6 0 0 0),(10, .ref 37 1 0 C C),(39, .int C),(40, .int k)]) (λ k=>[(3, .cells [.int n, .d (Zag ls), .d (Zal ar), .d (Zag cs)]),(6, .cells [.int 0, .nilS, .nilS, .nilS]),(37, .row 1 ((ZcK (λ _=>0) (λ _=>-1) C k).map D.int))]) (λ k=>C-k) 0 ?_ ?_ ?_
   ·exact uG _
   ·exact kN (kc1 hz0) []
   ·intro k hk;have hml:=ZjT (λ _=>0) (λ _=>-1) C k;rcases uC k C with hlt|hge
    ·have hg:(ZcK (λ _=>0) (λ _=>-1) C k)[k]? =some 0:=Zr1 hlt;have hs2:((ZcK (λ _=>0) (λ _=>-1) C k).map D.int).set k (D.int (-1))=(ZcK (λ _=>0) (λ _=>-1) C (k+1)).map D.int:=by rw[<-Zr2 hlt,yR]
     refine kw1 kO (kc3 hg hml hs2) kc0 ?_;refine⟨k+1,?_,kN (kc1 hs2) [],?_⟩
     ·omega
     ·omega
    ·have:k=C:=by omega
     subst this;have hz1:ZcK (λ _=>0) (λ _=>-1) k k=Zbg (λ u:Nat=>placeF (z.take 0) u) k:=by rw[Zr0];exact Zhd λ v _=>rfl
     try dsimp only
     rw[hz1];refine kw1 kO (kc1 hz) kc0 ?_;refine Zae (λ(j:Nat)=>j<=z.length) (λ j=>[(1, .int i),(3, .ptr 3 0 0 0),(6, .ptr 6 0 0 0),(10, .ref 37 1 0 k k),(51, .d (Zab z)),(52, .int z.length),(53, .int j)]) (λ j=>[(3, .cells [.int n, .d (Zag ls), .d (Zal ar), .d (Zag cs)]),(6, .cells [.int 0, .nilS, .nilS, .nilS]),(37, .row 1 ((Zbg (λ u:Nat=>placeF (z.take j) u) k).map D.int))]) (λ j=>z.length-j) 0 ?_ ?_ ?_
     ·exact uG _
     ·exact kN kc0 []
     ·intro j hj;have hml:=Zex (λ u:Nat=>placeF (z.take j) u) k;rcases uC j z.length with hlt|hge
      ·obtain⟨v,hv1⟩:=Zac hlt;obtain⟨v1,v2⟩:=hzr j v hv1;obtain⟨v,rfl⟩:∃m:Nat,v=m:=⟨v.toNat,by omega⟩;have hg:(Zbg (λ u:Nat=>placeF (z.take j) u) k)[v]? =some (placeF (z.take j) v):=Zf8 (by omega);have hs1:(Zbg (λ u:Nat=>placeF (z.take j) u) k).set v (j:Int)=Zbg (λ u:Nat=>placeF (z.take (j+1)) u) k:=by
        rw[Ztf];refine Zhd λ u hu=>?_
        rw[ZAr hzn hv1];by_cases c:u=v
        ·subst c;rw[if_pos rfl,if_pos rfl]
        ·rw[if_neg c,if_neg (by omega)]
       have hs2:((Zbg (λ u:Nat=>placeF (z.take j) u) k).map D.int).set v (D.int j)=(Zbg (λ u:Nat=>placeF (z.take (j+1)) u) k).map D.int:=by rw[<-hs1,yR]
       refine kw1 kO (kc4 hv1 hg hml hs2) kc0 ?_;refine⟨j+1,?_,kN (kc1 hs2) [],?_⟩
       ·omega
       ·omega
      ·have:j=z.length:=by omega
       subst this
       try dsimp only
       rw[yH];refine Zaq _ (Zc2 37 1 ((Zbg (λ u:Nat=>placeF z u) k).map D.int) rfl (ZcS _ rfl) (by decide)) ?_;have htl:((Zbg (λ u:Nat=>placeF z u) k).map D.int).take k=(Zbg (λ u:Nat=>placeF z u) k).map D.int:=uE (by rw[uD,Zex];exact uI _);have hPl:=Zex (λ u:Nat=>placeF z u) k;refine kw1 kO (kc4 hy htl hPl @qN.{0}) (kc1 (kmc [(2000,903)] hcl)) ?_;refine Zaq _ (Zc3 15 901 1 rfl rfl) ?_;refine Zaq _ (Zc3 16 902 2 rfl rfl) ?_;refine Zae (λ(q:Nat)=>q<=y.length) (λ q=>[(1, .int i),(3, .ptr 3 0 0 0),(6, .ptr 6 0 0 0),(10, .d (Zab (Zbg (λ u:Nat=>placeF z u) k))),(14, .ref 903 1 0 y.length y.length),(15, .ref 901 1 0 (F q).length (F q).length),(16, .ref 902 2 0 (F q).length (F q).length),(69, .ref 903 1 0 y.length y.length),(70, .int y.length),(71, .int q)]) (λ q=>[(3, .cells [.int n, .d (Zag ls), .d (Zal ar), .d (Zag cs)]),(6, .cells [.int 0, .nilS, .nilS, .nilS]),(901, .row 1 ((F q).map Zao)),(902, .row 2 ((F q).map (elD (λ k:Nat=>at0 y k) λ k=>(PQ k).map D.int))),(903, .row 1 (y.map D.int))]) (λ q=>y.length-q) 0 ?_ ?_ ?_
       ·exact uG _
       ·exact kN (kc6 hF0 @yE.{0,0} @uW.{0} htl hPl @uI) []
       ·intro q hq;have hql:=hFl q;rcases uC q y.length with hlt|hge
        ·have gq:=at0_at (r:=y) (i:=q) hlt;have hp:=hplk q;have e1:=hFs q;have h1:((F q).map Zao).take (F q).length=(F q).map Zao:=Zan _ _;have h2:((F q).map (elD (λ k:Nat=>at0 y k) λ k=>(PQ k).map D.int)).take (F q).length=(F q).map (elD (λ k:Nat=>at0 y k) λ k=>(PQ k).map D.int):=Zan _ _;by_cases c:0<(PQ q).length
         ·rw[yB c,if_pos rfl]at e1
          repeat' first|refine ZbH rfl ?_|refine Za0 ?_|refine wR ?_|(refine rc (hp) rfl ?_ ?_;(· first|rfl|simp(disch:=omega) only[go_sem,simprocAttr,gq,c,h1,h2,roomy]))|(refine ZbM rfl rfl (λ hc=>?_) (λ hc=>?_)<;>try simp only[hcL]at hc)|(refine ZbL _ rfl rfl (λ hc=>?_) (λ hc=>?_)<;>(try simp only[hcL]at hc)<;>try omega)|simp(disch:=omega) only[go_sem,simprocAttr,gq,c,h1,h2,roomy]|(first|exact Zha _|exact λ d hd=>by rw[uT.1 hd];rfl)|apply And.intro|omega|decide+kernel
          refine⟨q+1,?_,kN (kc8 e1 h1 h2 @uR.{0,0} @uS.{0,0} @yE.{0,0} @uH.{0} (kc3 @uX.{0} @uW.{0} @qM)) [(901,86),(902,92)],?_⟩
          ·omega
          ·omega
         ·rw[uU c,if_neg (by decide)]at e1;refine kw1 kO (kc2 gq c) (kc1 hp) ?_;refine⟨q+1,?_,kN (kc1 e1) [],?_⟩
          ·omega
          ·omega
        ·have:q=y.length:=by omega
         subst this;refine kw1 kO kc0 (kc1 (kmc [(1000,902)] hso)) ?_;refine Zae (λ(q:Nat)=>q<=(F y.length).length) (λ q=>[(1, .int i),(3, .ptr 3 0 0 0),(6, .ptr 6 0 0 0),(14, .ref 903 1 0 y.length y.length),(15, .ref 901 1 0 (F y.length).length (F y.length).length),(96, .ref 902 2 0 (F y.length).length (F y.length).length),(97, .int (F y.length).length),(98, .int q)]) (λ q=>[(3, .cells [.int n, .d (Zag ls), .d (Zal ar), .d (Zag cs)]),(6, .cells [.int 0, .nilS, .nilS, .nilS]),(901, .row 1 ((F y.length).map Zao)),(902, .row 2 (T.map (elD (λ k:Nat=>at0 y k) λ k=>(PQ k).map D.int))),(903, .row 1 ((ON q).map D.int))]) (λ q=>(F y.length).length-q) 0 ?_ ?_ ?_
         ·exact uG _
         ·exact kN (kc1 hO0) []
         ·intro q hq;have hol:=hOl q;rcases uC q (F y.length).length with hlt|hge
          ·obtain⟨j,hj⟩:=Zac hlt;obtain⟨t,ht⟩:=Zac (l:=T) (k:=q) (by omega);have hjy:=hFm q j hj;have hs1:=hOs q j t hj ht;obtain⟨w,hw1⟩:=Zac (l:=ON q) (k:=j) (by omega);have hs2:((ON q).map D.int).set j (D.int (at0 y t))=(ON (q+1)).map D.int:=by rw[<-hs1,yR]
           refine kw1 kO (kc6 hj ht hw1 hol hSl hs2) kc0 ?_;refine⟨q+1,?_,kN (kc1 hs2) [],?_⟩
           ·omega
           ·omega
          ·have:q=(F y.length).length:=by omega
           subst this
           try dsimp only
           rw[hOf]at hol|-;refine Zaq _ (Zc2 903 1 (OBv.map D.int) rfl (ZcS _ rfl) (by decide)) ?_;have htl2:(OBv.map D.int).take y.length=OBv.map D.int:=by rw[<-hol];exact Zan _ _
           refine kw1 kO (kc3 htl2 hol @qN.{0}) (kc1 hre) ?_;refine⟨_,_,_,_,rfl,?_⟩;simp(disch:=omega) only[go_sem,simprocAttr,toD]
end Go.Proofs.YtjjbhjnpeenbkaaGreatDoor
